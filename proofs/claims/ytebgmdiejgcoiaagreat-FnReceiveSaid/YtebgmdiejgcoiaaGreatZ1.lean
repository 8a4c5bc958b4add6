/- Contracts that this law needs, part 1. -/
import Derived.Test.YtebgmdiejgcoiaaGreatYW
import Derived.Test.YtebgmdiejgcoiaaGreatA5
import Derived.Test.YtebgmdiejgcoiaaGreatG1
import Derived.Test.YtebgmdiejgcoiaaGreatYD
import Derived.Test.YtebgmdiejgcoiaaGreatG3
import Derived.Test.YtebgmdiejgcoiaaGreatG2
import Derived.Test.YtebgmdiejgcoiaaGreatA2
namespace Go.Proofs.YtebgmdiejgcoiaaGreat
open Go.RowKit
set_option linter.unusedVariables false
set_option linter.unusedSimpArgs false
set_option maxRecDepth 100000
set_option maxHeartbeats 2000000
abbrev aI (x : Int) : AV := .v (.int .i64 x)
abbrev aB (x : Bool) : AV := .v (.bool x)
abbrev aP (x : Nat) : AV := .v (.pointer (some ⟨x, 0, none⟩))
abbrev gP (x : Nat) : Value := .pointer (some ⟨x, 0, none⟩)
abbrev iI (x : Int) : Value := .int .i64 x
abbrev cF (B g : Nat) (A : Option Addr) (c : List Int) (cap : Nat) : Fact := gm B g 137 (.slice A c.length cap) c.length
abbrev cS (a : Option Addr) (c : Con) (n : Nat) : Value := .slice a c.r.held.length n
abbrev cH (a : Option Addr) (c : Con) (n : Nat) : Fact := c7 (cS a c n) 2 (c.r.held.map pC)
abbrev sJ (a : Option Addr) (c : List Int) (n : Nat) : Value := .slice a c.length n
abbrev sQ (a : Option Addr) (c : List Int) (n : Nat) : Fact := c7 (sJ a c n) 1 (c.map bR)
abbrev K6 : IntKind := .i64


theorem ysMssFor_c (c : Con) (rV : Value) (w : World)  : Calls Tryz.prog 90 #[.agg (a7 c rV).toArray] w fun e w' => e = .returned (iI (ek c)) ∧ Below w.heap.size w w' := by
 refine bH (args := [.agg (a7 c rV).toArray]) (fn := Tryz.f90) [] Tryz.func90 rfl Tryz.ntmps90 rfl (by simp) ?_
 refine kQ <| c8 [1] ⟨[(1,.p 0 0)],[⟨44,a7 c rV⟩],[],[]⟩ <| kS <| kQ <| aJ [1,6] [(1,.p 0 0),(6,aB (c.o.mss == 0))] ?_
 refine kC (c.o.mss == 0) (fun h1 => ?_) (fun h1 => ?_)
 have h1p := bC h1
 refine kQ <| aJ [2] [(2,aI 536)] <| kR ?_
 exact ⟨[iI 536],by kernel_rfl,fun w' hb hf => ⟨ret_int (show (536 : Int) = ek c from by first | rfl | (simp [ek, *]; done) | (simp [ek, *]; omega) | grind [bv,ek]),hb⟩⟩
 have h1p := bA h1
 refine kK <| kQ <| dh 3 [9] [(9,aI c.o.mss)] 75 [iI 1460,iI c.o.mss] (some 10) rfl (bM fun ww hf => go 1460 c.o.mss ww ) ?_
 intro _
 refine dh 0 [10] [(10,aI (min 1460 c.o.mss))] 76 [iI 1,iI (min 1460 c.o.mss)] (some 11) rfl (bM fun ww hf => eo 1 (min 1460 c.o.mss) ww ) ?_
 intro _
 refine aJ [2] [(2,aI (max 1 (min 1460 c.o.mss)))] <| kR ?_
 exact ⟨[iI (max 1 (min 1460 c.o.mss))],by kernel_rfl,fun w' hb hf => ⟨ret_int (show (max 1 (min 1460 c.o.mss) : Int) = ek c from by first | rfl | (simp [ek, *]; done) | (simp [ek, *]; omega) | grind [bv,ek]),hb⟩⟩
theorem ysUnsent_c (c : Con) (rV : Value) (w : World)  : Calls Tryz.prog 167 #[.agg (a7 c rV).toArray] w fun e w' => e = .returned (.bool (i3 c)) ∧ Below w.heap.size w w' := by
 refine bH (args := [.agg (a7 c rV).toArray]) (fn := Tryz.f167) [] Tryz.func167 rfl Tryz.ntmps167 rfl (by simp) ?_
 refine kQ <| c8 [1] ⟨[(1,.p 0 0)],[⟨44,a7 c rV⟩],[],[]⟩ <| kS <| bo ⟨[(2,aB ((!(c.s.data.toList == (⟨#[]⟩ : ByteArray).toList)) || (c.s.fin && (!c.s.done))))],[⟨44,a7 c rV⟩],[],[]⟩ ?_ ?_
 refine kG <| cR 5 [1,7] [(1,.p 0 0),(7,aB (!(c.s.data.toList == (⟨#[]⟩ : ByteArray).toList)))] <| kP 7 (!(c.s.data.toList == (⟨#[]⟩ : ByteArray).toList)) (fun h1 => ?_) (fun h1 => ?_)
 have h1n := bg h1
 have h1np := h1n; simp only [beq_iff_eq,bne_iff_ne,beq_eq_false_iff_ne,bne_eq_false_iff_eq,ne_eq,bv] at h1np
 refine aJ [2] [(2,aB true)] ?_
 show Wk _ _
 try rw [h1]
 exact kF 1 0 [2]
 have h1n := aD h1
 have h1np := h1n; simp only [beq_iff_eq,bne_iff_ne,beq_eq_false_iff_ne,bne_eq_false_iff_eq,ne_eq,bv] at h1np
 refine cR 4 [1,7,11] [(1,.p 0 0),(7,aB false),(11,aB c.s.fin)] <| kP 11 (c.s.fin) (fun h2 => ?_) (fun h2 => ?_)
 refine aJ [2] [(2,aB (!c.s.done))] ?_
 show Wk _ _
 try rw [h1]
 try rw [h2]
 exact kF 1 0 [2]
 refine aJ [2] [(2,aB false)] ?_
 show Wk _ _
 try rw [h1]
 try rw [h2]
 exact kF 1 0 [2]
 refine kR ?_
 exact ⟨[.bool ((!(c.s.data.toList == (⟨#[]⟩ : ByteArray).toList)) || (c.s.fin && (!c.s.done)))],by kernel_rfl,fun w' hb hf => ⟨aU (show ((!(c.s.data.toList == (⟨#[]⟩ : ByteArray).toList)) || (c.s.fin && (!c.s.done)) : Bool) = i3 c from by first | rfl | (simp [i3, *]; done) | (simp [i3, *]; omega) | grind [bv,i3]),hb⟩⟩
theorem gS (r : Rcv) (r_heldV : Value) (w : World) (hl_r_heldV : Sl w r_heldV 2 (r.held.map pC)) (hm : ∀ p ∈ r.held, p.text.size ≤ 1048576) (hsz : r.data.size ≤ 4611686018427387904) : Calls Tryz.prog 65 #[.agg (ah r r_heldV).toArray] w fun e w' => e = .returned (.bool (rO r)) ∧ Below w.heap.size w w' := by
 have hw := da r
 obtain ⟨Arh,Crh,hvrh⟩ := hl_r_heldV.form
 rw [List.length_map] at hvrh; subst hvrh
 have hnrh := hl_r_heldV.len; rw [List.length_map] at hnrh
 have hqrh := Sl.capLe hl_r_heldV
 refine bH (args := [.agg (ah r (.slice Arh r.held.length Crh)).toArray]) (fn := Tryz.f65) [c7 (.slice Arh r.held.length Crh) 2 (r.held.map pC)] Tryz.func65 rfl Tryz.ntmps65 rfl (by simp only [List.mem_cons,List.not_mem_nil,or_false,forall_eq_or_imp,forall_eq]; exact ⟨rfl,hl_r_heldV⟩) ?_
 refine kQ <| c8 [1] ⟨[(1,.p 0 0)],[⟨41,ah r (.slice Arh r.held.length Crh)⟩],[],[c7 (.slice Arh r.held.length Crh) 2 (r.held.map pC)]⟩ <| kQ <| dy 1 [1,7] [(7,.v (.agg (ah r (.slice Arh r.held.length Crh)).toArray))] 82 [.agg (ah r (.slice Arh r.held.length Crh)).toArray] (some 8) rfl (aA fun ww hf => eY r.next r.data r.held (.slice Arh r.held.length Crh) r.fin r.done ww (by omega)) ?_
 intro _
 refine aR [1,3] [(3,aI (wO r))] <| kS <| kQ <| dy 2 [1,3,10] [(10,aI r.next)] 114 [iI r.next,iI 32] (some 11) rfl (bM fun ww hf => fg r.next ww) ?_
 intro _
 refine cA 2 [1,3,13] [(13,aB (!(ac r.next 32)))] <| kP 13 (!(ac r.next 32)) (fun h1 => ?_) (fun h1 => ?_)
 have h1n := bg h1
 refine aR [1,3,36] [(36,aB true)] <| kT <| kQ <| aJ [2] [(2,aB false)] ?_
 refine kR ?_
 exact ⟨[.bool false],by kernel_rfl,fun w' hb hf => ⟨aU (show (false : Bool) = rO r from by first | rfl | (rw [HR,HK]; simp [*]; done) | (rw [HR,HK]; simp [*]; omega) | (rw [HR,HK]; grind [bD]) | (simp [rO,aX, *]; done) | (simp [rO,aX, *]; omega) | grind [rO,aX]),hb⟩⟩
 have h1n := aD h1
 refine cA 6 [1,3,19] [(19,aB (decide ((r.data.size : Int) > 32)))] <| kP 19 (decide ((r.data.size : Int) > 32)) (fun h2 => ?_) (fun h2 => ?_)
 have h2p := of_decide_eq_true h2
 refine aR [1,3,36] [(36,aB true)] <| kT <| kQ <| aJ [2] [(2,aB false)] ?_
 refine kR ?_
 exact ⟨[.bool false],by kernel_rfl,fun w' hb hf => ⟨aU (show (false : Bool) = rO r from by first | rfl | (rw [HR,HK]; simp [*]; done) | (rw [HR,HK]; simp [*]; omega) | (rw [HR,HK]; grind [bD]) | (simp [rO,aX, *]; done) | (simp [rO,aX, *]; omega) | grind [rO,aX]),hb⟩⟩
 have h2p := of_decide_eq_false h2
 refine cA 6 [1,3,25] [(25,aB (decide (((r.held.length : Nat) : Int) > 3)))] <| kP 25 (decide (((r.held.length : Nat) : Int) > 3)) (fun h3 => ?_) (fun h3 => ?_)
 have h3p := of_decide_eq_true h3
 refine aR [1,3,36] [(36,aB true)] <| kT <| kQ <| aJ [2] [(2,aB false)] ?_
 refine kR ?_
 exact ⟨[.bool false],by kernel_rfl,fun w' hb hf => ⟨aU (show (false : Bool) = rO r from by first | rfl | (rw [HR,HK]; simp [*]; done) | (rw [HR,HK]; simp [*]; omega) | (rw [HR,HK]; grind [bD]) | (simp [rO,aX, *]; done) | (simp [rO,aX, *]; omega) | grind [rO,aX]),hb⟩⟩
 have h3p := of_decide_eq_false h3
 refine dy 3 [1,3,25,27,28] [(25,aB false),(27,aI r.fin),(28,aI (wO r))] 67 [iI r.fin,iI (-1),iI (wO r)] (some 29) rfl (bM fun ww hf => f0 r.fin (-1) (wO r) ww ) ?_
 intro _
 refine cA 3 [1,3,32] [(32,aB (!(ci r.fin (-1) (wO r))))] <| kP 32 (!(ci r.fin (-1) (wO r))) (fun h4 => ?_) (fun h4 => ?_)
 have h4n := bg h4
 refine aR [1,3,36] [(36,aB true)] <| kT <| kQ <| aJ [2] [(2,aB false)] ?_
 refine kR ?_
 exact ⟨[.bool false],by kernel_rfl,fun w' hb hf => ⟨aU (show (false : Bool) = rO r from by first | rfl | (rw [HR,HK]; simp [*]; done) | (rw [HR,HK]; simp [*]; omega) | (rw [HR,HK]; grind [bD]) | (simp [rO,aX, *]; done) | (simp [rO,aX, *]; omega) | grind [rO,aX]),hb⟩⟩
 have h4n := aD h4
 refine aR [1,3,36] [(36,aB (r.fin == 0))] <| kC (r.fin == 0) (fun h5 => ?_) (fun h5 => ?_)
 have h5p := bC h5
 refine kQ <| aJ [2] [(2,aB false)] <| kR ?_
 exact ⟨[.bool false],by kernel_rfl,fun w' hb hf => ⟨aU (show (false : Bool) = rO r from by first | rfl | (rw [HR,HK]; simp [*]; done) | (rw [HR,HK]; simp [*]; omega) | (rw [HR,HK]; grind [bD]) | (simp [rO,aX, *]; done) | (simp [rO,aX, *]; omega) | grind [rO,aX]),hb⟩⟩
 have h5p := bA h5
 refine kK <| kQ <| aR [1,3,4] [(4,aI 0)] <| kS <| kQ <| aJ [1,3,4,5] [(1,.p 0 0),(3,aI (wO r)),(4,aI 0),(5,aI 0)] ?_
 refine aZ ?_
 have hp : aX r = true := by first | (simp [aX, *]; done) | (simp [aX, *]; omega) | grind [aX]
 have hin := inB_tt.1 (rcvPre_iff.1 hp).2.2.2.1
 have HR := receiverOkS r hp
 refine cz (α := {x : Nat × Int // (fun (k : Nat) (z : Int) => k ≤ r.held.length ∧ 0 ≤ z ∧ z ≤ 32 ∧ de (wO r) r.fin 0 r.held = de (wO r) r.fin z (r.held.drop k)) x.1 x.2}) (fun x => (fun (k : Nat) (z : Int) => (⟨[(1,.p 0 0),(3,aI (wO r)),(4,aI z),(5,aI (k : Int))],[⟨41,ah r (.slice Arh r.held.length Crh)⟩],[],[c7 (.slice Arh r.held.length Crh) 2 (r.held.map pC)]⟩ : St)) x.1.1 x.1.2) (fun x => r.held.length - x.1.1) ⟨(0,0),⟨Nat.zero_le _,by omega,by omega,rfl⟩⟩ (kF 1 0 [1,3,4,5]) ?_
 rintro ⟨⟨k,z⟩,hk,hz0,hz1,HK⟩
 try dsimp only
 try dsimp only at hk hz0 hz1 HK
 refine kS <| kQ <| aR [1,3,4,5,41] [(41,aB (decide ((k : Int) < ((r.held.length : Nat) : Int))))] <| kC (decide ((k : Int) < ((r.held.length : Nat) : Int))) (fun h6 => ?_) (fun h6 => ?_)
 have h6p := of_decide_eq_true h6
 have hlt : k < r.held.length := by simpa using h6
 obtain ⟨x,hx⟩ : ∃ x,r.held[k]? = some x := ⟨_,List.getElem?_eq_getElem hlt⟩
 have hxm := hm x (List.mem_of_getElem? hx)
 rw [dQ hx] at HK; simp only [de,cl] at HK
 refine kK <| kS <| aZ <| kQ <| eM (kd := .i64) (T := 39) (e := 85) (K := 2) 3 [1,3,4,5,45,46] [(45,.v (.slice Arh r.held.length Crh)),(46,aI (k : Int))] k [iI x.off,.string x.text] (c7 (.slice Arh r.held.length Crh) 2 (r.held.map pC)) (by kernel_rfl) rfl (by kernel_rfl) rfl rfl (by kernel_rfl) (by kernel_rfl) (by kernel_rfl) (by kernel_rfl) hlt (by simp) (fun w h => h) (fun b h => h) (by simp only [List.getElem?_map,hx]; rfl) ?_
 refine i5 [1,3,4,5,6] [(6,.p 1 0)] [⟨85,ff x⟩] <| kS <| kQ <| cA 4 [1,3,4,5,6,52] [(52,aB (x.text.toList == (⟨#[]⟩ : ByteArray).toList))] ?_
 refine kP 52 (x.text.toList == (⟨#[]⟩ : ByteArray).toList) (fun h7 => ?_) (fun h7 => ?_)
 have h7p := h7; simp only [beq_iff_eq,bne_iff_ne,beq_eq_false_iff_ne,bne_eq_false_iff_eq,ne_eq,bv] at h7p
 refine aR [1,3,5,6,73] [(73,aB true)] <| kT <| kQ <| aJ [2] [(2,aB false)] ?_
 refine kR ?_
 exact ⟨[.bool false],by kernel_rfl,fun w' hb hf => ⟨aU (show (false : Bool) = rO r from by first | rfl | (rw [HR,HK]; simp [*]; done) | (rw [HR,HK]; simp [*]; omega) | (rw [HR,HK]; grind [bD]) | (simp [rO,aX, *]; done) | (simp [rO,aX, *]; omega) | grind [rO,aX]),hb⟩⟩
 have h7p := h7; simp only [beq_iff_eq,bne_iff_ne,beq_eq_false_iff_ne,bne_eq_false_iff_eq,ne_eq,bv] at h7p
 refine cA 6 [1,3,5,6,58] [(58,aB (decide (x.off ≤ z)))] <| kP 58 (decide (x.off ≤ z)) (fun h8 => ?_) (fun h8 => ?_)
 have h8p := of_decide_eq_true h8
 refine aR [1,3,5,6,73] [(73,aB true)] <| kT <| kQ <| aJ [2] [(2,aB false)] ?_
 refine kR ?_
 exact ⟨[.bool false],by kernel_rfl,fun w' hb hf => ⟨aU (show (false : Bool) = rO r from by first | rfl | (rw [HR,HK]; simp [*]; done) | (rw [HR,HK]; simp [*]; omega) | (rw [HR,HK]; grind [bD]) | (simp [rO,aX, *]; done) | (simp [rO,aX, *]; omega) | grind [rO,aX]),hb⟩⟩
 have h8p := of_decide_eq_false h8
 refine cA 6 [1,3,5,6,64] [(64,aB (decide (x.off > (wO r))))] <| kP 64 (decide (x.off > (wO r))) (fun h9 => ?_) (fun h9 => ?_)
 have h9p := of_decide_eq_true h9
 refine aR [1,3,5,6,73] [(73,aB true)] <| kT <| kQ <| aJ [2] [(2,aB false)] ?_
 refine kR ?_
 exact ⟨[.bool false],by kernel_rfl,fun w' hb hf => ⟨aU (show (false : Bool) = rO r from by first | rfl | (rw [HR,HK]; simp [*]; done) | (rw [HR,HK]; simp [*]; omega) | (rw [HR,HK]; grind [bD]) | (simp [rO,aX, *]; done) | (simp [rO,aX, *]; omega) | grind [rO,aX]),hb⟩⟩
 have h9p := of_decide_eq_false h9
 refine cA 9 [1,3,5,6,73] [(73,aB (decide ((K6.wrap (x.off + (x.text.size : Int))) > (wO r))))] <| cJ [1,3,5,6,73] [(73,aB (decide ((K6.wrap (x.off + (x.text.size : Int))) > (wO r))))] [(73,aB (decide ((x.off + (x.text.size : Int)) > (wO r))))] (by rw [show (K6.wrap (x.off + (x.text.size : Int))) = (x.off + (x.text.size : Int)) from ab (by omega) (by omega)]) (by kernel_rfl) ?_
 refine aR [1,3,5,6,73] [] <| kC (decide ((x.off + (x.text.size : Int)) > (wO r))) (fun h10 => ?_) (fun h10 => ?_)
 have h10p := of_decide_eq_true h10
 refine kQ <| aJ [2] [(2,aB false)] <| kR ?_
 exact ⟨[.bool false],by kernel_rfl,fun w' hb hf => ⟨aU (show (false : Bool) = rO r from by first | rfl | (rw [HR,HK]; simp [*]; done) | (rw [HR,HK]; simp [*]; omega) | (rw [HR,HK]; grind [bD]) | (simp [rO,aX, *]; done) | (simp [rO,aX, *]; omega) | grind [rO,aX]),hb⟩⟩
 have h10p := of_decide_eq_false h10
 refine kK <| kG <| cR 7 [1,3,4,5] [(1,.p 0 0),(3,aI (wO r)),(4,aI (K6.wrap (x.off + (x.text.size : Int)))),(5,aI (k : Int))] <| dg (t' := [(1,.p 0 0),(3,aI (wO r)),(4,aI (x.off + (x.text.size : Int))),(5,aI (k : Int))]) (by rw [show (K6.wrap (x.off + (x.text.size : Int))) = (x.off + (x.text.size : Int)) from ab (by omega) (by omega)]) ?_
 refine aR [1,3,4,5] [] <| kG <| cA 3 [1,3,4,5] [(5,aI (K6.wrap ((k : Int) + 1)))] <| cJ [1,3,4,5] [(5,aI (K6.wrap ((k : Int) + 1)))] [(5,aI ((k : Int) + 1))] (by rw [show (K6.wrap ((k : Int) + 1)) = ((k : Int) + 1) from ab (by omega) (by omega)]) (by kernel_rfl) ?_
 refine aR [1,3,4,5] [] ?_
 exact ⟨⟨(k + 1,x.off + (x.text.size : Int)),⟨by omega,by omega,by omega,by rw [HK]; first | (simp [*]; done) | (simp [*]; omega) | grind⟩⟩,kF 1 0 [1,3,4,5],by show r.held.length - (k + 1) < r.held.length - k; omega⟩
 have h6p := of_decide_eq_false h6
 have hge : k = r.held.length := by simp at h6; omega
 subst hge; simp only [List.drop_length,de,cl] at HK
 refine cq <| kQ <| cA 4 [1,4,83] [(83,aB (decide (r.fin < 0)))] <| kP 83 (decide (r.fin < 0)) (fun h11 => ?_) (fun h11 => ?_)
 have h11p := of_decide_eq_true h11
 refine cA 10 [1,89,93] [(89,aB true),(93,aB (!r.done))] <| kP 93 (!r.done) (fun h12 => ?_) (fun h12 => ?_)
 have h12n := bg h12
 refine aJ [2] [(2,aB true)] <| kR ?_
 exact ⟨[.bool true],by kernel_rfl,fun w' hb hf => ⟨aU (show (true : Bool) = rO r from by first | rfl | (rw [HR,HK]; simp [*]; done) | (rw [HR,HK]; simp [*]; omega) | (rw [HR,HK]; grind [bD]) | (simp [rO,aX, *]; done) | (simp [rO,aX, *]; omega) | grind [rO,aX]),hb⟩⟩
 have h12n := aD h12
 refine cA 5 [1,89,93,98] [(93,aB false),(98,aB (((r.held.length : Nat) : Int) == 0))] <| kP 98 (((r.held.length : Nat) : Int) == 0) (fun h13 => ?_) (fun h13 => ?_)
 have h13p := bC h13
 refine aJ [2] [(2,aB (r.fin == (-1)))] <| kR ?_
 exact ⟨[.bool (r.fin == (-1))],by kernel_rfl,fun w' hb hf => ⟨aU (show (r.fin == (-1) : Bool) = rO r from by first | rfl | (rw [HR,HK]; simp [*]; done) | (rw [HR,HK]; simp [*]; omega) | (rw [HR,HK]; grind [bD]) | (simp [rO,aX, *]; done) | (simp [rO,aX, *]; omega) | grind [rO,aX]),hb⟩⟩
 have h13p := bA h13
 refine aJ [2] [(2,aB false)] <| kR ?_
 exact ⟨[.bool false],by kernel_rfl,fun w' hb hf => ⟨aU (show (false : Bool) = rO r from by first | rfl | (rw [HR,HK]; simp [*]; done) | (rw [HR,HK]; simp [*]; omega) | (rw [HR,HK]; grind [bD]) | (simp [rO,aX, *]; done) | (simp [rO,aX, *]; omega) | grind [rO,aX]),hb⟩⟩
 have h11p := of_decide_eq_false h11
 refine cA 6 [1,89] [(89,aB (decide (z ≤ r.fin)))] <| kP 89 (decide (z ≤ r.fin)) (fun h14 => ?_) (fun h14 => ?_)
 have h14p := of_decide_eq_true h14
 refine cA 4 [1,89,93] [(89,aB true),(93,aB (!r.done))] <| kP 93 (!r.done) (fun h15 => ?_) (fun h15 => ?_)
 have h15n := bg h15
 refine aJ [2] [(2,aB true)] <| kR ?_
 exact ⟨[.bool true],by kernel_rfl,fun w' hb hf => ⟨aU (show (true : Bool) = rO r from by first | rfl | (rw [HR,HK]; simp [*]; done) | (rw [HR,HK]; simp [*]; omega) | (rw [HR,HK]; grind [bD]) | (simp [rO,aX, *]; done) | (simp [rO,aX, *]; omega) | grind [rO,aX]),hb⟩⟩
 have h15n := aD h15
 refine cA 5 [1,89,93,98] [(93,aB false),(98,aB (((r.held.length : Nat) : Int) == 0))] <| kP 98 (((r.held.length : Nat) : Int) == 0) (fun h16 => ?_) (fun h16 => ?_)
 have h16p := bC h16
 refine aJ [2] [(2,aB (r.fin == (-1)))] <| kR ?_
 exact ⟨[.bool (r.fin == (-1))],by kernel_rfl,fun w' hb hf => ⟨aU (show (r.fin == (-1) : Bool) = rO r from by first | rfl | (rw [HR,HK]; simp [*]; done) | (rw [HR,HK]; simp [*]; omega) | (rw [HR,HK]; grind [bD]) | (simp [rO,aX, *]; done) | (simp [rO,aX, *]; omega) | grind [rO,aX]),hb⟩⟩
 have h16p := bA h16
 refine aJ [2] [(2,aB false)] <| kR ?_
 exact ⟨[.bool false],by kernel_rfl,fun w' hb hf => ⟨aU (show (false : Bool) = rO r from by first | rfl | (rw [HR,HK]; simp [*]; done) | (rw [HR,HK]; simp [*]; omega) | (rw [HR,HK]; grind [bD]) | (simp [rO,aX, *]; done) | (simp [rO,aX, *]; omega) | grind [rO,aX]),hb⟩⟩
 have h14p := of_decide_eq_false h14
 refine aJ [2] [(2,aB false)] <| kR ?_
 exact ⟨[.bool false],by kernel_rfl,fun w' hb hf => ⟨aU (show (false : Bool) = rO r from by first | rfl | (rw [HR,HK]; simp [*]; done) | (rw [HR,HK]; simp [*]; omega) | (rw [HR,HK]; grind [bD]) | (simp [rO,aX, *]; done) | (simp [rO,aX, *]; omega) | grind [rO,aX]),hb⟩⟩
theorem yiMssFor_c (c : Con) (rV : Value) (w : World)  : Calls Tryz.prog 102 #[.agg (a7 c rV).toArray] w fun e w' => e = .returned (iI (ek c)) ∧ Below w.heap.size w w' := by
 refine bH (args := [.agg (a7 c rV).toArray]) (fn := Tryz.f102) [] Tryz.func102 rfl Tryz.ntmps102 rfl (by simp) ?_
 refine kQ <| c8 [1] ⟨[(1,.p 0 0)],[⟨44,a7 c rV⟩],[],[]⟩ <| kS <| kQ <| aJ [1,6] [(1,.p 0 0),(6,aB (c.o.mss == 0))] ?_
 refine kC (c.o.mss == 0) (fun h1 => ?_) (fun h1 => ?_)
 have h1p := bC h1
 refine kQ <| aJ [2] [(2,aI 536)] <| kR ?_
 exact ⟨[iI 536],by kernel_rfl,fun w' hb hf => ⟨ret_int (show (536 : Int) = ek c from by first | rfl | (simp [ek, *]; done) | (simp [ek, *]; omega) | grind [bv,ek]),hb⟩⟩
 have h1p := bA h1
 refine kK <| kQ <| aJ [2] [(2,aI (if 1 < (if 1460 < c.o.mss then 1460 else c.o.mss) then if 1460 < c.o.mss then 1460 else c.o.mss else 1))] <| kR ?_
 exact ⟨[iI (if 1 < (if 1460 < c.o.mss then 1460 else c.o.mss) then if 1460 < c.o.mss then 1460 else c.o.mss else 1)],by kernel_rfl,fun w' hb hf => ⟨ret_int (show (if 1 < (if 1460 < c.o.mss then 1460 else c.o.mss) then if 1460 < c.o.mss then 1460 else c.o.mss else 1 : Int) = ek c from by first | rfl | (simp [ek, *]; done) | (simp [ek, *]; omega) | grind [bv,ek]),hb⟩⟩
theorem yiReceiverOk_c (r : Rcv) (r_heldV : Value) (w : World) (hl_r_heldV : Sl w r_heldV 2 (r.held.map pC)) (hm : ∀ p ∈ r.held, p.text.size ≤ 1048576) (hsz : r.data.size ≤ 4611686018427387904) : Calls Tryz.prog 60 #[.agg (ah r r_heldV).toArray] w fun e w' => e = .returned (.bool (rO r)) ∧ Below w.heap.size w w' := by
 have hw := da r
 obtain ⟨Arh,Crh,hvrh⟩ := hl_r_heldV.form
 rw [List.length_map] at hvrh; subst hvrh
 have hnrh := hl_r_heldV.len; rw [List.length_map] at hnrh
 have hqrh := Sl.capLe hl_r_heldV
 refine bH (args := [.agg (ah r (.slice Arh r.held.length Crh)).toArray]) (fn := Tryz.f60) [c7 (.slice Arh r.held.length Crh) 2 (r.held.map pC)] Tryz.func60 rfl Tryz.ntmps60 rfl (by simp only [List.mem_cons,List.not_mem_nil,or_false,forall_eq_or_imp,forall_eq]; exact ⟨rfl,hl_r_heldV⟩) ?_
 refine kQ <| c8 [1] ⟨[(1,.p 0 0)],[⟨41,ah r (.slice Arh r.held.length Crh)⟩],[],[c7 (.slice Arh r.held.length Crh) 2 (r.held.map pC)]⟩ <| kQ <| dy 1 [1,8] [(8,.v (.agg (ah r (.slice Arh r.held.length Crh)).toArray))] 95 [.agg (ah r (.slice Arh r.held.length Crh)).toArray] (some 9) rfl (aA fun ww hf => fD r.next r.data r.held (.slice Arh r.held.length Crh) r.fin r.done ww (by omega)) ?_
 intro _
 refine aR [1,3] [(3,aI (wO r))] <| kS <| kQ <| dy 2 [1,3,11] [(11,aI r.next)] 113 [iI r.next,iI 32] (some 12) rfl (bM fun ww hf => fu r.next ww) ?_
 intro _
 refine cA 2 [1,3,14] [(14,aB (!(ac r.next 32)))] <| kP 14 (!(ac r.next 32)) (fun h1 => ?_) (fun h1 => ?_)
 have h1n := bg h1
 refine aR [1,3,37] [(37,aB true)] <| kT <| kQ <| aJ [2] [(2,aB false)] ?_
 refine kR ?_
 exact ⟨[.bool false],by kernel_rfl,fun w' hb hf => ⟨aU (show (false : Bool) = rO r from by first | rfl | (rw [HR,HK]; simp [*]; done) | (rw [HR,HK]; simp [*]; omega) | (rw [HR,HK]; grind [bD]) | (simp [rO,aX, *]; done) | (simp [rO,aX, *]; omega) | grind [rO,aX]),hb⟩⟩
 have h1n := aD h1
 refine cA 6 [1,3,20] [(20,aB (decide ((r.data.size : Int) > 32)))] <| kP 20 (decide ((r.data.size : Int) > 32)) (fun h2 => ?_) (fun h2 => ?_)
 have h2p := of_decide_eq_true h2
 refine aR [1,3,37] [(37,aB true)] <| kT <| kQ <| aJ [2] [(2,aB false)] ?_
 refine kR ?_
 exact ⟨[.bool false],by kernel_rfl,fun w' hb hf => ⟨aU (show (false : Bool) = rO r from by first | rfl | (rw [HR,HK]; simp [*]; done) | (rw [HR,HK]; simp [*]; omega) | (rw [HR,HK]; grind [bD]) | (simp [rO,aX, *]; done) | (simp [rO,aX, *]; omega) | grind [rO,aX]),hb⟩⟩
 have h2p := of_decide_eq_false h2
 refine cA 6 [1,3,26] [(26,aB (decide (((r.held.length : Nat) : Int) > 3)))] <| kP 26 (decide (((r.held.length : Nat) : Int) > 3)) (fun h3 => ?_) (fun h3 => ?_)
 have h3p := of_decide_eq_true h3
 refine aR [1,3,37] [(37,aB true)] <| kT <| kQ <| aJ [2] [(2,aB false)] ?_
 refine kR ?_
 exact ⟨[.bool false],by kernel_rfl,fun w' hb hf => ⟨aU (show (false : Bool) = rO r from by first | rfl | (rw [HR,HK]; simp [*]; done) | (rw [HR,HK]; simp [*]; omega) | (rw [HR,HK]; grind [bD]) | (simp [rO,aX, *]; done) | (simp [rO,aX, *]; omega) | grind [rO,aX]),hb⟩⟩
 have h3p := of_decide_eq_false h3
 refine dy 3 [1,3,26,28,29] [(26,aB false),(28,aI r.fin),(29,aI (wO r))] 62 [iI r.fin,iI (-1),iI (wO r)] (some 30) rfl (bM fun ww hf => dM r.fin (-1) (wO r) ww ) ?_
 intro _
 refine cA 3 [1,3,33] [(33,aB (!(ci r.fin (-1) (wO r))))] <| kP 33 (!(ci r.fin (-1) (wO r))) (fun h4 => ?_) (fun h4 => ?_)
 have h4n := bg h4
 refine aR [1,3,37] [(37,aB true)] <| kT <| kQ <| aJ [2] [(2,aB false)] ?_
 refine kR ?_
 exact ⟨[.bool false],by kernel_rfl,fun w' hb hf => ⟨aU (show (false : Bool) = rO r from by first | rfl | (rw [HR,HK]; simp [*]; done) | (rw [HR,HK]; simp [*]; omega) | (rw [HR,HK]; grind [bD]) | (simp [rO,aX, *]; done) | (simp [rO,aX, *]; omega) | grind [rO,aX]),hb⟩⟩
 have h4n := aD h4
 refine aR [1,3,37] [(37,aB (r.fin == 0))] <| kC (r.fin == 0) (fun h5 => ?_) (fun h5 => ?_)
 have h5p := bC h5
 refine kQ <| aJ [2] [(2,aB false)] <| kR ?_
 exact ⟨[.bool false],by kernel_rfl,fun w' hb hf => ⟨aU (show (false : Bool) = rO r from by first | rfl | (rw [HR,HK]; simp [*]; done) | (rw [HR,HK]; simp [*]; omega) | (rw [HR,HK]; grind [bD]) | (simp [rO,aX, *]; done) | (simp [rO,aX, *]; omega) | grind [rO,aX]),hb⟩⟩
 have h5p := bA h5
 refine kK <| kQ <| aR [1,4] [(4,aI (wO r))] <| kS <| kQ <| aJ [1,4,41] [(1,.p 0 0),(4,aI (wO r)),(41,aB (r.fin != (-1)))] ?_
 refine kC (r.fin != (-1)) (fun h6 => ?_) (fun h6 => ?_)
 have h6p := neT h6
 refine kG <| aR [1,4] [(4,aI r.fin)] <| kQ <| aR [1,4,5] [(5,aI 0)] ?_
 refine kS <| kQ <| aR [1,4,5,45,46,47] [(45,.v (.slice Arh r.held.length Crh)),(46,aI ((r.held.length : Nat) : Int)),(47,aI 0)] <| aZ ?_
 have hp : aX r = true := by first | (simp [aX, *]; done) | (simp [aX, *]; omega) | grind [aX]
 have hin := inB_tt.1 (rcvPre_iff.1 hp).2.2.2.1
 have HR : rO r = (cl (if r.fin = -1 then wO r else r.fin) 0 r.held && bD r) := by unfold rO; rw [hp]; rfl
 refine cz (α := {x : Nat × Int // (fun (k : Nat) (z : Int) => k ≤ r.held.length ∧ 0 ≤ z ∧ z ≤ 32 ∧ cl (if r.fin = -1 then wO r else r.fin) 0 r.held = cl (if r.fin = -1 then wO r else r.fin) z (r.held.drop k)) x.1 x.2}) (fun x => (fun (k : Nat) (z : Int) => (⟨[(1,.p 0 0),(4,aI r.fin),(5,aI z),(45,.v (.slice Arh r.held.length Crh)),(46,aI ((r.held.length : Nat) : Int)),(47,aI (k : Int))],[⟨41,ah r (.slice Arh r.held.length Crh)⟩],[],[c7 (.slice Arh r.held.length Crh) 2 (r.held.map pC)]⟩ : St)) x.1.1 x.1.2) (fun x => r.held.length - x.1.1) ⟨(0,0),⟨Nat.zero_le _,by omega,by omega,rfl⟩⟩ (kF 1 0 [1,4,5,45,46,47]) ?_
 rintro ⟨⟨k,z⟩,hk,hz0,hz1,HK⟩
 try dsimp only
 try dsimp only at hk hz0 hz1 HK
 refine kQ <| aR [1,4,5,45,46,47,48] [(48,aB (decide ((k : Int) < ((r.held.length : Nat) : Int))))] <| kS <| kC (decide ((k : Int) < ((r.held.length : Nat) : Int))) (fun h7 => ?_) (fun h7 => ?_)
 have h7p := of_decide_eq_true h7
 have hlt : k < r.held.length := by simpa using h7
 obtain ⟨x,hx⟩ : ∃ x,r.held[k]? = some x := ⟨_,List.getElem?_eq_getElem hlt⟩
 have hxm := hm x (List.mem_of_getElem? hx)
 rw [dQ hx] at HK; simp only [de,cl] at HK
 refine kK <| kS <| aZ <| kQ <| eM (kd := .i64) (T := 39) (e := 85) (K := 2) 0 [1,4,5,45,46,47] [] k [iI x.off,.string x.text] (c7 (.slice Arh r.held.length Crh) 2 (r.held.map pC)) (by kernel_rfl) rfl (by kernel_rfl) rfl rfl (by kernel_rfl) (by kernel_rfl) (by kernel_rfl) (by kernel_rfl) hlt (by simp) (fun w h => h) (fun b h => h) (by simp only [List.getElem?_map,hx]; rfl) ?_
 refine i5 [1,4,5,7,45,46,47] [(7,.p 1 0)] [⟨85,ff x⟩] <| kS <| kQ <| cA 4 [1,4,5,7,45,46,47,54] [(54,aB (x.text.toList == (⟨#[]⟩ : ByteArray).toList))] ?_
 refine kP 54 (x.text.toList == (⟨#[]⟩ : ByteArray).toList) (fun h8 => ?_) (fun h8 => ?_)
 have h8p := h8; simp only [beq_iff_eq,bne_iff_ne,beq_eq_false_iff_ne,bne_eq_false_iff_eq,ne_eq,bv] at h8p
 refine aR [1,4,7,45,46,47,69] [(69,aB true)] <| kT <| kQ <| aJ [2] [(2,aB false)] ?_
 refine kR ?_
 exact ⟨[.bool false],by kernel_rfl,fun w' hb hf => ⟨aU (show (false : Bool) = rO r from by first | rfl | (rw [HR,HK]; simp [*]; done) | (rw [HR,HK]; simp [*]; omega) | (rw [HR,HK]; grind [bD]) | (simp [rO,aX, *]; done) | (simp [rO,aX, *]; omega) | grind [rO,aX]),hb⟩⟩
 have h8p := h8; simp only [beq_iff_eq,bne_iff_ne,beq_eq_false_iff_ne,bne_eq_false_iff_eq,ne_eq,bv] at h8p
 refine cA 6 [1,4,7,45,46,47,60] [(60,aB (decide (x.off ≤ z)))] <| kP 60 (decide (x.off ≤ z)) (fun h9 => ?_) (fun h9 => ?_)
 have h9p := of_decide_eq_true h9
 refine aR [1,4,7,45,46,47,69] [(69,aB true)] <| kT <| kQ <| aJ [2] [(2,aB false)] ?_
 refine kR ?_
 exact ⟨[.bool false],by kernel_rfl,fun w' hb hf => ⟨aU (show (false : Bool) = rO r from by first | rfl | (rw [HR,HK]; simp [*]; done) | (rw [HR,HK]; simp [*]; omega) | (rw [HR,HK]; grind [bD]) | (simp [rO,aX, *]; done) | (simp [rO,aX, *]; omega) | grind [rO,aX]),hb⟩⟩
 have h9p := of_decide_eq_false h9
 refine cA 9 [1,4,7,45,46,47,69] [(69,aB (decide (x.off > (K6.wrap (r.fin - (x.text.size : Int))))))] <| cJ [1,4,7,45,46,47,69] [(69,aB (decide (x.off > (K6.wrap (r.fin - (x.text.size : Int))))))] [(69,aB (decide (x.off > (r.fin - (x.text.size : Int)))))] (by rw [show (K6.wrap (r.fin - (x.text.size : Int))) = (r.fin - (x.text.size : Int)) from ab (by omega) (by omega)]) (by kernel_rfl) ?_
 refine aJ [1,4,7,45,46,47,69] [(1,.p 0 0),(4,aI r.fin),(7,.p 1 0),(45,.v (.slice Arh r.held.length Crh)),(46,aI ((r.held.length : Nat) : Int)),(47,aI (k : Int)),(69,aB (decide (x.off > (r.fin - (x.text.size : Int)))))] <| kC (decide (x.off > (r.fin - (x.text.size : Int)))) (fun h10 => ?_) (fun h10 => ?_)
 have h10p := of_decide_eq_true h10
 refine kQ <| aJ [2] [(2,aB false)] <| kR ?_
 exact ⟨[.bool false],by kernel_rfl,fun w' hb hf => ⟨aU (show (false : Bool) = rO r from by first | rfl | (rw [HR,HK]; simp [*]; done) | (rw [HR,HK]; simp [*]; omega) | (rw [HR,HK]; grind [bD]) | (simp [rO,aX, *]; done) | (simp [rO,aX, *]; omega) | grind [rO,aX]),hb⟩⟩
 have h10p := of_decide_eq_false h10
 refine kK <| kG <| cA 7 [1,4,5,45,46,47] [(5,aI (K6.wrap (x.off + (x.text.size : Int))))] <| cJ [1,4,5,45,46,47] [(5,aI (K6.wrap (x.off + (x.text.size : Int))))] [(5,aI (x.off + (x.text.size : Int)))] (by rw [show (K6.wrap (x.off + (x.text.size : Int))) = (x.off + (x.text.size : Int)) from ab (by omega) (by omega)]) (by kernel_rfl) ?_
 refine aR [1,4,5,45,46,47] [] <| kG <| cA 2 [1,4,5,45,46,47] [(47,aI (K6.wrap ((k : Int) + 1)))] <| cJ [1,4,5,45,46,47] [(47,aI (K6.wrap ((k : Int) + 1)))] [(47,aI ((k : Int) + 1))] (by rw [show (K6.wrap ((k : Int) + 1)) = ((k : Int) + 1) from ab (by omega) (by omega)]) (by kernel_rfl) ?_
 refine aR [1,4,5,45,46,47] [] ?_
 exact ⟨⟨(k + 1,x.off + (x.text.size : Int)),⟨by omega,by omega,by omega,by rw [HK]; first | (simp [*]; done) | (simp [*]; omega) | grind⟩⟩,kF 1 0 [1,4,5,45,46,47],by show r.held.length - (k + 1) < r.held.length - k; omega⟩
 have h7p := of_decide_eq_false h7
 have hge : k = r.held.length := by simp at h7; omega
 subst hge; simp only [List.drop_length,de,cl] at HK
 refine cq <| kQ <| cA 4 [1,80] [(80,aB (!r.done))] <| kP 80 (!r.done) (fun h11 => ?_) (fun h11 => ?_)
 have h11n := bg h11
 refine aJ [2] [(2,aB true)] <| kR ?_
 exact ⟨[.bool true],by kernel_rfl,fun w' hb hf => ⟨aU (show (true : Bool) = rO r from by first | rfl | (rw [HR,HK]; simp [*]; done) | (rw [HR,HK]; simp [*]; omega) | (rw [HR,HK]; grind [bD]) | (simp [rO,aX, *]; done) | (simp [rO,aX, *]; omega) | grind [rO,aX]),hb⟩⟩
 have h11n := aD h11
 refine cA 5 [1,80,85] [(80,aB false),(85,aB (((r.held.length : Nat) : Int) == 0))] <| kP 85 (((r.held.length : Nat) : Int) == 0) (fun h12 => ?_) (fun h12 => ?_)
 have h12p := bC h12
 refine aJ [2] [(2,aB (r.fin == (-1)))] <| kR ?_
 exact ⟨[.bool (r.fin == (-1))],by kernel_rfl,fun w' hb hf => ⟨aU (show (r.fin == (-1) : Bool) = rO r from by first | rfl | (rw [HR,HK]; simp [*]; done) | (rw [HR,HK]; simp [*]; omega) | (rw [HR,HK]; grind [bD]) | (simp [rO,aX, *]; done) | (simp [rO,aX, *]; omega) | grind [rO,aX]),hb⟩⟩
 have h12p := bA h12
 refine aJ [2] [(2,aB false)] <| kR ?_
 exact ⟨[.bool false],by kernel_rfl,fun w' hb hf => ⟨aU (show (false : Bool) = rO r from by first | rfl | (rw [HR,HK]; simp [*]; done) | (rw [HR,HK]; simp [*]; omega) | (rw [HR,HK]; grind [bD]) | (simp [rO,aX, *]; done) | (simp [rO,aX, *]; omega) | grind [rO,aX]),hb⟩⟩
 have h6p := neF h6
 refine kK <| kQ <| aR [1,4,5] [(5,aI 0)] <| kS <| kQ <| aR [1,4,5,45,46,47] [(45,.v (.slice Arh r.held.length Crh)),(46,aI ((r.held.length : Nat) : Int)),(47,aI 0)] ?_
 refine aZ ?_
 have hp : aX r = true := by first | (simp [aX, *]; done) | (simp [aX, *]; omega) | grind [aX]
 have hin := inB_tt.1 (rcvPre_iff.1 hp).2.2.2.1
 have HR : rO r = (cl (if r.fin = -1 then wO r else r.fin) 0 r.held && bD r) := by unfold rO; rw [hp]; rfl
 refine cz (α := {x : Nat × Int // (fun (k : Nat) (z : Int) => k ≤ r.held.length ∧ 0 ≤ z ∧ z ≤ 32 ∧ cl (if r.fin = -1 then wO r else r.fin) 0 r.held = cl (if r.fin = -1 then wO r else r.fin) z (r.held.drop k)) x.1 x.2}) (fun x => (fun (k : Nat) (z : Int) => (⟨[(1,.p 0 0),(4,aI (wO r)),(5,aI z),(45,.v (.slice Arh r.held.length Crh)),(46,aI ((r.held.length : Nat) : Int)),(47,aI (k : Int))],[⟨41,ah r (.slice Arh r.held.length Crh)⟩],[],[c7 (.slice Arh r.held.length Crh) 2 (r.held.map pC)]⟩ : St)) x.1.1 x.1.2) (fun x => r.held.length - x.1.1) ⟨(0,0),⟨Nat.zero_le _,by omega,by omega,rfl⟩⟩ (kF 1 0 [1,4,5,45,46,47]) ?_
 rintro ⟨⟨k,z⟩,hk,hz0,hz1,HK⟩
 try dsimp only
 try dsimp only at hk hz0 hz1 HK
 refine kQ <| aR [1,4,5,45,46,47,48] [(48,aB (decide ((k : Int) < ((r.held.length : Nat) : Int))))] <| kS <| kC (decide ((k : Int) < ((r.held.length : Nat) : Int))) (fun h13 => ?_) (fun h13 => ?_)
 have h13p := of_decide_eq_true h13
 have hlt : k < r.held.length := by simpa using h13
 obtain ⟨x,hx⟩ : ∃ x,r.held[k]? = some x := ⟨_,List.getElem?_eq_getElem hlt⟩
 have hxm := hm x (List.mem_of_getElem? hx)
 rw [dQ hx] at HK; simp only [de,cl] at HK
 refine kK <| kS <| aZ <| kQ <| eM (kd := .i64) (T := 39) (e := 85) (K := 2) 0 [1,4,5,45,46,47] [] k [iI x.off,.string x.text] (c7 (.slice Arh r.held.length Crh) 2 (r.held.map pC)) (by kernel_rfl) rfl (by kernel_rfl) rfl rfl (by kernel_rfl) (by kernel_rfl) (by kernel_rfl) (by kernel_rfl) hlt (by simp) (fun w h => h) (fun b h => h) (by simp only [List.getElem?_map,hx]; rfl) ?_
 refine i5 [1,4,5,7,45,46,47] [(7,.p 1 0)] [⟨85,ff x⟩] <| kS <| kQ <| cA 4 [1,4,5,7,45,46,47,54] [(54,aB (x.text.toList == (⟨#[]⟩ : ByteArray).toList))] ?_
 refine kP 54 (x.text.toList == (⟨#[]⟩ : ByteArray).toList) (fun h14 => ?_) (fun h14 => ?_)
 have h14p := h14; simp only [beq_iff_eq,bne_iff_ne,beq_eq_false_iff_ne,bne_eq_false_iff_eq,ne_eq,bv] at h14p
 refine aR [1,4,7,45,46,47,69] [(69,aB true)] <| kT <| kQ <| aJ [2] [(2,aB false)] ?_
 refine kR ?_
 exact ⟨[.bool false],by kernel_rfl,fun w' hb hf => ⟨aU (show (false : Bool) = rO r from by first | rfl | (rw [HR,HK]; simp [*]; done) | (rw [HR,HK]; simp [*]; omega) | (rw [HR,HK]; grind [bD]) | (simp [rO,aX, *]; done) | (simp [rO,aX, *]; omega) | grind [rO,aX]),hb⟩⟩
 have h14p := h14; simp only [beq_iff_eq,bne_iff_ne,beq_eq_false_iff_ne,bne_eq_false_iff_eq,ne_eq,bv] at h14p
 refine cA 6 [1,4,7,45,46,47,60] [(60,aB (decide (x.off ≤ z)))] <| kP 60 (decide (x.off ≤ z)) (fun h15 => ?_) (fun h15 => ?_)
 have h15p := of_decide_eq_true h15
 refine aR [1,4,7,45,46,47,69] [(69,aB true)] <| kT <| kQ <| aJ [2] [(2,aB false)] ?_
 refine kR ?_
 exact ⟨[.bool false],by kernel_rfl,fun w' hb hf => ⟨aU (show (false : Bool) = rO r from by first | rfl | (rw [HR,HK]; simp [*]; done) | (rw [HR,HK]; simp [*]; omega) | (rw [HR,HK]; grind [bD]) | (simp [rO,aX, *]; done) | (simp [rO,aX, *]; omega) | grind [rO,aX]),hb⟩⟩
 have h15p := of_decide_eq_false h15
 refine cA 9 [1,4,7,45,46,47,69] [(69,aB (decide (x.off > (K6.wrap ((wO r) - (x.text.size : Int))))))] <| cJ [1,4,7,45,46,47,69] [(69,aB (decide (x.off > (K6.wrap ((wO r) - (x.text.size : Int))))))] [(69,aB (decide (x.off > ((wO r) - (x.text.size : Int)))))] (by rw [show (K6.wrap ((wO r) - (x.text.size : Int))) = ((wO r) - (x.text.size : Int)) from ab (by omega) (by omega)]) (by kernel_rfl) ?_
 refine aR [1,4,7,45,46,47,69] [] <| kC (decide (x.off > ((wO r) - (x.text.size : Int)))) (fun h16 => ?_) (fun h16 => ?_)
 have h16p := of_decide_eq_true h16
 refine kQ <| aJ [2] [(2,aB false)] <| kR ?_
 exact ⟨[.bool false],by kernel_rfl,fun w' hb hf => ⟨aU (show (false : Bool) = rO r from by first | rfl | (rw [HR,HK]; simp [*]; done) | (rw [HR,HK]; simp [*]; omega) | (rw [HR,HK]; grind [bD]) | (simp [rO,aX, *]; done) | (simp [rO,aX, *]; omega) | grind [rO,aX]),hb⟩⟩
 have h16p := of_decide_eq_false h16
 refine kK <| kG <| cR 7 [1,4,5,45,46,47] [(1,.p 0 0),(4,aI (wO r)),(5,aI (K6.wrap (x.off + (x.text.size : Int)))),(45,.v (.slice Arh r.held.length Crh)),(46,aI ((r.held.length : Nat) : Int)),(47,aI (k : Int))] <| dg (t' := [(1,.p 0 0),(4,aI (wO r)),(5,aI (x.off + (x.text.size : Int))),(45,.v (.slice Arh r.held.length Crh)),(46,aI ((r.held.length : Nat) : Int)),(47,aI (k : Int))]) (by rw [show (K6.wrap (x.off + (x.text.size : Int))) = (x.off + (x.text.size : Int)) from ab (by omega) (by omega)]) ?_
 refine aR [1,4,5,45,46,47] [] <| kG <| cA 2 [1,4,5,45,46,47] [(47,aI (K6.wrap ((k : Int) + 1)))] <| cJ [1,4,5,45,46,47] [(47,aI (K6.wrap ((k : Int) + 1)))] [(47,aI ((k : Int) + 1))] (by rw [show (K6.wrap ((k : Int) + 1)) = ((k : Int) + 1) from ab (by omega) (by omega)]) (by kernel_rfl) ?_
 refine aR [1,4,5,45,46,47] [] ?_
 exact ⟨⟨(k + 1,x.off + (x.text.size : Int)),⟨by omega,by omega,by omega,by rw [HK]; first | (simp [*]; done) | (simp [*]; omega) | grind⟩⟩,kF 1 0 [1,4,5,45,46,47],by show r.held.length - (k + 1) < r.held.length - k; omega⟩
 have h13p := of_decide_eq_false h13
 have hge : k = r.held.length := by simp at h13; omega
 subst hge; simp only [List.drop_length,de,cl] at HK
 refine cq <| kQ <| cA 4 [1,80] [(80,aB (!r.done))] <| kP 80 (!r.done) (fun h17 => ?_) (fun h17 => ?_)
 have h17n := bg h17
 refine aJ [2] [(2,aB true)] <| kR ?_
 exact ⟨[.bool true],by kernel_rfl,fun w' hb hf => ⟨aU (show (true : Bool) = rO r from by first | rfl | (rw [HR,HK]; simp [*]; done) | (rw [HR,HK]; simp [*]; omega) | (rw [HR,HK]; grind [bD]) | (simp [rO,aX, *]; done) | (simp [rO,aX, *]; omega) | grind [rO,aX]),hb⟩⟩
 have h17n := aD h17
 refine cA 5 [1,80,85] [(80,aB false),(85,aB (((r.held.length : Nat) : Int) == 0))] <| kP 85 (((r.held.length : Nat) : Int) == 0) (fun h18 => ?_) (fun h18 => ?_)
 have h18p := bC h18
 refine aJ [2] [(2,aB (r.fin == (-1)))] <| kR ?_
 exact ⟨[.bool (r.fin == (-1))],by kernel_rfl,fun w' hb hf => ⟨aU (show (r.fin == (-1) : Bool) = rO r from by first | rfl | (rw [HR,HK]; simp [*]; done) | (rw [HR,HK]; simp [*]; omega) | (rw [HR,HK]; grind [bD]) | (simp [rO,aX, *]; done) | (simp [rO,aX, *]; omega) | grind [rO,aX]),hb⟩⟩
 have h18p := bA h18
 refine aJ [2] [(2,aB false)] <| kR ?_
 exact ⟨[.bool false],by kernel_rfl,fun w' hb hf => ⟨aU (show (false : Bool) = rO r from by first | rfl | (rw [HR,HK]; simp [*]; done) | (rw [HR,HK]; simp [*]; omega) | (rw [HR,HK]; grind [bD]) | (simp [rO,aX, *]; done) | (simp [rO,aX, *]; omega) | grind [rO,aX]),hb⟩⟩
theorem iy (a : Rcv) (a_heldV : Value) (b : Rcv) (b_heldV : Value) (w : World) (hl_a_heldV : Sl w a_heldV 2 (a.held.map pC)) (hl_b_heldV : Sl w b_heldV 2 (b.held.map pC))  : Calls Tryz.prog 23 #[.agg (ah a a_heldV).toArray, .agg (ah b b_heldV).toArray] w fun e w' => e = .returned (.bool (bw a b)) ∧ Below w.heap.size w w' := by
 obtain ⟨Aah,Cah,hvah⟩ := hl_a_heldV.form
 rw [List.length_map] at hvah; subst hvah
 have hnah := hl_a_heldV.len; rw [List.length_map] at hnah
 have hqah := Sl.capLe hl_a_heldV
 obtain ⟨Abh,Cbh,hvbh⟩ := hl_b_heldV.form
 rw [List.length_map] at hvbh; subst hvbh
 have hnbh := hl_b_heldV.len; rw [List.length_map] at hnbh
 have hqbh := Sl.capLe hl_b_heldV
 refine bH (args := [.agg (ah a (.slice Aah a.held.length Cah)).toArray,.agg (ah b (.slice Abh b.held.length Cbh)).toArray]) (fn := Tryz.f23) [c7 (.slice Aah a.held.length Cah) 2 (a.held.map pC),c7 (.slice Abh b.held.length Cbh) 2 (b.held.map pC)] Tryz.func23 rfl Tryz.ntmps23 rfl (by simp only [List.mem_cons,List.not_mem_nil,or_false,forall_eq_or_imp,forall_eq]; exact ⟨⟨rfl,hl_a_heldV⟩,⟨rfl,hl_b_heldV⟩⟩) ?_
 refine kQ <| c8 [2,3] ⟨[(2,.p 0 0),(3,.p 1 0)],[⟨41,ah a (.slice Aah a.held.length Cah)⟩,⟨41,ah b (.slice Abh b.held.length Cbh)⟩],[],[c7 (.slice Aah a.held.length Cah) 2 (a.held.map pC),c7 (.slice Abh b.held.length Cbh) 2 (b.held.map pC)]⟩ <| kS <| kS <| bo ⟨[(2,.p 0 0),(3,.p 1 0),(40,aB ((a.next != b.next) || ((!(a.data.toList == b.data.toList)) || ((a.fin != b.fin) || ((!(a.done == b.done)) || (((a.held.length : Nat) : Int) != ((b.held.length : Nat) : Int)))))))],[⟨41,ah a (.slice Aah a.held.length Cah)⟩,⟨41,ah b (.slice Abh b.held.length Cbh)⟩],[],[c7 (.slice Aah a.held.length Cah) 2 (a.held.map pC),c7 (.slice Abh b.held.length Cbh) 2 (b.held.map pC)]⟩ ?_ ?_
 refine kG <| cR 6 [2,3,11] [(2,.p 0 0),(3,.p 1 0),(11,aB (a.next != b.next))] <| kP 11 (a.next != b.next) (fun h1 => ?_) (fun h1 => ?_)
 have h1p := neT h1
 refine aJ [2,3,40] [(2,.p 0 0),(3,.p 1 0),(40,aB true)] ?_
 show Wk _ _
 try rw [h1]
 exact kF 2 0 [2,3,40]
 have h1p := neF h1
 refine cR 7 [2,3,18] [(2,.p 0 0),(3,.p 1 0),(18,aB (!(a.data.toList == b.data.toList)))] <| kP 18 (!(a.data.toList == b.data.toList)) (fun h2 => ?_) (fun h2 => ?_)
 have h2n := bg h2
 have h2np := h2n; simp only [beq_iff_eq,bne_iff_ne,beq_eq_false_iff_ne,bne_eq_false_iff_eq,ne_eq,bv] at h2np
 refine aJ [2,3,40] [(2,.p 0 0),(3,.p 1 0),(40,aB true)] ?_
 show Wk _ _
 try rw [h1]
 try rw [h2]
 exact kF 2 0 [2,3,40]
 have h2n := aD h2
 have h2np := h2n; simp only [beq_iff_eq,bne_iff_ne,beq_eq_false_iff_ne,bne_eq_false_iff_eq,ne_eq,bv] at h2np
 refine cR 7 [2,3,25] [(2,.p 0 0),(3,.p 1 0),(25,aB (a.fin != b.fin))] <| kP 25 (a.fin != b.fin) (fun h3 => ?_) (fun h3 => ?_)
 have h3p := neT h3
 refine aJ [2,3,40] [(2,.p 0 0),(3,.p 1 0),(40,aB true)] ?_
 show Wk _ _
 try rw [h1]
 try rw [h2]
 try rw [h3]
 exact kF 2 0 [2,3,40]
 have h3p := neF h3
 refine cR 7 [2,3,32] [(2,.p 0 0),(3,.p 1 0),(32,aB (!(a.done == b.done)))] <| kP 32 (!(a.done == b.done)) (fun h4 => ?_) (fun h4 => ?_)
 have h4n := bg h4
 have h4np := bA h4n
 refine aJ [2,3,40] [(2,.p 0 0),(3,.p 1 0),(40,aB true)] ?_
 show Wk _ _
 try rw [h1]
 try rw [h2]
 try rw [h3]
 try rw [h4]
 exact kF 2 0 [2,3,40]
 have h4n := aD h4
 have h4np := bC h4n
 refine aJ [2,3,40] [(2,.p 0 0),(3,.p 1 0),(40,aB (((a.held.length : Nat) : Int) != ((b.held.length : Nat) : Int)))] ?_
 show Wk _ _
 try rw [h1]
 try rw [h2]
 try rw [h3]
 try rw [h4]
 exact kF 2 0 [2,3,40]
 refine kC ((a.next != b.next) || ((!(a.data.toList == b.data.toList)) || ((a.fin != b.fin) || ((!(a.done == b.done)) || (((a.held.length : Nat) : Int) != ((b.held.length : Nat) : Int)))))) (fun h5 => ?_) (fun h5 => ?_)
 refine kQ <| aJ [4] [(4,aB false)] <| kR ?_
 exact ⟨[.bool false],by kernel_rfl,fun w' hb hf => ⟨aU (show (false : Bool) = bw a b from by first | rfl | (simp [bw, *]; done) | grind [bw,ct]),hb⟩⟩
 have h5l := eA h5
 have h5lp := neF h5l
 have h5r := f6 h5
 have h5rl := eA h5r
 have h5rln := aD h5rl
 have h5rlnp := h5rln; simp only [beq_iff_eq,bne_iff_ne,beq_eq_false_iff_ne,bne_eq_false_iff_eq,ne_eq,bv] at h5rlnp
 have h5rr := f6 h5r
 have h5rrl := eA h5rr
 have h5rrlp := neF h5rrl
 have h5rrr := f6 h5rr
 have h5rrrl := eA h5rrr
 have h5rrrln := aD h5rrrl
 have h5rrrlnp := bC h5rrrln
 have h5rrrr := f6 h5rrr
 have h5rrrrp := neF h5rrrr
 refine kK <| kS <| kQ <| aJ [2,3,5] [(2,.p 0 0),(3,.p 1 0),(5,aI 0)] ?_
 refine aZ ?_
 have hlen : a.held.length = b.held.length := by omega
 refine cz (α := {x : Nat // (fun (k : Nat) => k ≤ a.held.length ∧ ∀ (i : Nat) (x y : Pce),i < k → a.held[i]? = some x → b.held[i]? = some y → ev x y = true) x}) (fun x => (fun (k : Nat) => (⟨[(2,.p 0 0),(3,.p 1 0),(5,aI (k : Int))],[⟨41,ah a (.slice Aah a.held.length Cah)⟩,⟨41,ah b (.slice Abh b.held.length Cbh)⟩],[],[c7 (.slice Aah a.held.length Cah) 2 (a.held.map pC),c7 (.slice Abh b.held.length Cbh) 2 (b.held.map pC)]⟩ : St)) x.1) (fun x => a.held.length - x.1) ⟨(0),⟨Nat.zero_le _,fun i x y hi => by omega⟩⟩ (kF 2 0 [2,3,5]) ?_
 rintro ⟨k,hk,HK⟩
 try dsimp only
 try dsimp only at hk HK
 refine kS <| kQ <| aJ [2,3,5,45] [(2,.p 0 0),(3,.p 1 0),(5,aI (k : Int)),(45,aB (decide ((k : Int) < ((a.held.length : Nat) : Int))))] <| kC (decide ((k : Int) < ((a.held.length : Nat) : Int))) (fun h6 => ?_) (fun h6 => ?_)
 have h6p := of_decide_eq_true h6
 have hlt : k < a.held.length := by simpa using h6
 obtain ⟨x,hx⟩ : ∃ x,a.held[k]? = some x := ⟨_,List.getElem?_eq_getElem hlt⟩
 obtain ⟨y,hy⟩ : ∃ y,b.held[k]? = some y := ⟨_,List.getElem?_eq_getElem (by omega)⟩
 refine kK <| kS <| aZ <| kS <| fy ?_
 refine gn (K := 2) (j := k) [iI x.off,.string x.text] (c7 (.slice Aah a.held.length Cah) 2 (a.held.map pC)) (fun _ _ h => h) (by simp) (fun w h => h) (fun b h => h) (by simp only [List.getElem?_map,hx]; rfl) (fun bq7 offq7 hAq7 => ?_)
 refine gn (K := 2) (j := k) [iI y.off,.string y.text] (c7 (.slice Abh b.held.length Cbh) 2 (b.held.map pC)) (fun _ _ h => h) (by simp) (fun w h => h) (fun b h => h) (by simp only [List.getElem?_map,hy]; rfl) (fun bq8 offq8 hAq8 => ?_)
 refine e9 [] (by kernel_rfl) (fun ρ σ hq9 => ?_)
 refine ca [0,1,2,5,6,7] [55,54,50,49,2,3,5] 5 [(55,aI (k : Int)),(54,.v (.slice Abh b.held.length Cbh)),(50,aI (k : Int)),(49,.v (.slice Aah a.held.length Cah)),(2,.p 0 0),(3,.p 1 0),(5,aI (k : Int))] <| fZ (kd := .i64) (T := 39) (e := 85) (K := 2) (j := k) (A := Aah) (len := a.held.length) (cap := Cah) 3 0 _ rfl (by kernel_rfl) (by kernel_rfl) (by kernel_rfl) (fun _ _ h => h) (by kernel_rfl) rfl rfl (by kernel_rfl) (by kernel_rfl) (by kernel_rfl) (by kernel_rfl) hlt hAq7 hq9.1.2 (by kernel_rfl) rfl ?_
 refine ca [4] [52,55,54,2,3,5] 3 [(52,.v (.agg (ff x).toArray)),(55,aI (k : Int)),(54,.v (.slice Abh b.held.length Cbh)),(2,.p 0 0),(3,.p 1 0),(5,aI (k : Int))] <| fZ (kd := .i64) (T := 39) (e := 85) (K := 2) (j := k) (A := Abh) (len := b.held.length) (cap := Cbh) 8 1 _ rfl (by kernel_rfl) (by kernel_rfl) (by kernel_rfl) (fun _ _ h => h) (by kernel_rfl) rfl rfl (by kernel_rfl) (by kernel_rfl) (by kernel_rfl) (by kernel_rfl) (by omega) hAq8 hq9.2 (by kernel_rfl) rfl ?_
 refine ca [9] [57,52,2,3,5] 1 [(57,.v (.agg (ff y).toArray)),(52,.v (.agg (ff x).toArray)),(2,.p 0 0),(3,.p 1 0),(5,aI (k : Int))] <| kX 10 (.bool (!ev x y)) rfl (fun _ _ ww hA => cj hA rfl (by kernel_rfl) (by kernel_rfl) (fJ (by kernel_rfl) (run_neq_PCE x.off x.text y.off y.text ww))) ?_
 refine kZ <| kC (!ev x y) (fun h10 => ?_) (fun h10 => ?_)
 have hno := sameL_no hx hy (by simpa using h10)
 refine kQ <| aJ [4] [(4,aB false)] <| kR ?_
 exact ⟨[.bool false],by kernel_rfl,fun w' hb hf => ⟨aU (show (false : Bool) = bw a b from by first | rfl | (simp [bw, *]; done) | grind [bw,ct]),hb⟩⟩
 have hye : ev x y = true := by simpa using h10
 refine kK <| kG <| cR 3 [2,3,5] [(2,.p 0 0),(3,.p 1 0),(5,aI (K6.wrap ((k : Int) + 1)))] <| dg (t' := [(2,.p 0 0),(3,.p 1 0),(5,aI ((k : Int) + 1))]) (by rw [show (K6.wrap ((k : Int) + 1)) = ((k : Int) + 1) from ab (by omega) (by omega)]) ?_
 refine aJ [2,3,5] [(2,.p 0 0),(3,.p 1 0),(5,aI ((k : Int) + 1))] ?_
 exact ⟨⟨(k + 1),⟨by omega,same_step hx hy hye HK⟩⟩,kF 2 0 [2,3,5],by show a.held.length - (k + 1) < a.held.length - k; omega⟩
 have h6p := of_decide_eq_false h6
 have hge : k = a.held.length := by simp at h6; omega
 have hall := ig hge hlen HK
 refine cq <| kQ <| aJ [4] [(4,aB true)] <| kR ?_
 exact ⟨[.bool true],by kernel_rfl,fun w' hb hf => ⟨aU (show (true : Bool) = bw a b from by first | rfl | (simp [bw, *]; done) | grind [bw,ct]),hb⟩⟩
theorem yEqualPiece_c (a : List Pce) (aV : Value) (b : List Pce) (bV : Value) (w : World) (hl_aV : Sl w aV 2 (a.map pC)) (hl_bV : Sl w bV 2 (b.map pC))  : Calls Tryz.prog 112 #[aV, bV] w fun e w' => e = .returned (.bool (ew ev a b)) ∧ Below w.heap.size w w' := by
 obtain ⟨Aa,Ca,hva⟩ := hl_aV.form
 rw [List.length_map] at hva; subst hva
 have hna := hl_aV.len; rw [List.length_map] at hna
 have hqa := Sl.capLe hl_aV
 obtain ⟨Ab,Cb,hvb⟩ := hl_bV.form
 rw [List.length_map] at hvb; subst hvb
 have hnb := hl_bV.len; rw [List.length_map] at hnb
 have hqb := Sl.capLe hl_bV
 refine bH (args := [.slice Aa a.length Ca,.slice Ab b.length Cb]) (fn := Tryz.f112) [c7 (.slice Aa a.length Ca) 2 (a.map pC),c7 (.slice Ab b.length Cb) 2 (b.map pC)] Tryz.func112 rfl Tryz.ntmps112 rfl (by simp only [List.mem_cons,List.not_mem_nil,or_false,forall_eq_or_imp,forall_eq]; exact ⟨⟨rfl,hl_aV⟩,⟨rfl,hl_bV⟩⟩) ?_
 refine kQ <| c8 [0,1] ⟨[(0,.v (.slice Aa a.length Ca)),(1,.v (.slice Ab b.length Cb))],[],[],[c7 (.slice Aa a.length Ca) 2 (a.map pC),c7 (.slice Ab b.length Cb) 2 (b.map pC)]⟩ <| kS <| kQ <| aJ [0,1,10] [(0,.v (.slice Aa a.length Ca)),(1,.v (.slice Ab b.length Cb)),(10,aB (((a.length : Nat) : Int) != ((b.length : Nat) : Int)))] ?_
 refine kC (((a.length : Nat) : Int) != ((b.length : Nat) : Int)) (fun h1 => ?_) (fun h1 => ?_)
 have h1p := neT h1
 refine kQ <| aJ [4] [(4,aB false)] <| kR ?_
 exact ⟨[.bool false],by kernel_rfl,fun w' hb hf => ⟨aU (show (false : Bool) = ew ev a b from by first | rfl | (simp [ct, *]; done) | grind [ct,ct]),hb⟩⟩
 have h1p := neF h1
 refine kK <| kS <| kQ <| aJ [0,1,12,13] [(0,.v (.slice Aa a.length Ca)),(1,.v (.slice Ab b.length Cb)),(12,aI ((a.length : Nat) : Int)),(13,aI 0)] ?_
 refine aZ ?_
 have hlen : a.length = b.length := by omega
 refine cz (α := {x : Nat // (fun (k : Nat) => k ≤ a.length ∧ ∀ (i : Nat) (x y : Pce),i < k → a[i]? = some x → b[i]? = some y → ev x y = true) x}) (fun x => (fun (k : Nat) => (⟨[(0,.v (.slice Aa a.length Ca)),(1,.v (.slice Ab b.length Cb)),(12,aI ((a.length : Nat) : Int)),(13,aI (k : Int))],[],[],[c7 (.slice Aa a.length Ca) 2 (a.map pC),c7 (.slice Ab b.length Cb) 2 (b.map pC)]⟩ : St)) x.1) (fun x => a.length - x.1) ⟨(0),⟨Nat.zero_le _,fun i x y hi => by omega⟩⟩ (kF 0 0 [0,1,12,13]) ?_
 rintro ⟨k,hk,HK⟩
 try dsimp only
 try dsimp only at hk HK
 refine kQ <| aJ [0,1,12,13,14] [(0,.v (.slice Aa a.length Ca)),(1,.v (.slice Ab b.length Cb)),(12,aI ((a.length : Nat) : Int)),(13,aI (k : Int)),(14,aB (decide ((k : Int) < ((a.length : Nat) : Int))))] <| kS <| kC (decide ((k : Int) < ((a.length : Nat) : Int))) (fun h2 => ?_) (fun h2 => ?_)
 have h2p := of_decide_eq_true h2
 have hlt : k < a.length := by simpa using h2
 obtain ⟨x,hx⟩ : ∃ x,a[k]? = some x := ⟨_,List.getElem?_eq_getElem hlt⟩
 obtain ⟨y,hy⟩ : ∃ y,b[k]? = some y := ⟨_,List.getElem?_eq_getElem (by omega)⟩
 refine kK <| kS <| aZ <| kQ <| aJ [0,1,5,12,13] [(0,.v (.slice Aa a.length Ca)),(1,.v (.slice Ab b.length Cb)),(5,aI (k : Int)),(12,aI ((a.length : Nat) : Int)),(13,aI (k : Int))] ?_
 refine kS <| fy <| gn (K := 2) (j := k) [iI x.off,.string x.text] (c7 (.slice Aa a.length Ca) 2 (a.map pC)) (fun _ _ h => h) (by simp) (fun w h => h) (fun b h => h) (by simp only [List.getElem?_map,hx]; rfl) (fun bq3 offq3 hAq3 => ?_)
 refine gn (K := 2) (j := k) [iI y.off,.string y.text] (c7 (.slice Ab b.length Cb) 2 (b.map pC)) (fun _ _ h => h) (by simp) (fun w h => h) (fun b h => h) (by simp only [List.getElem?_map,hy]; rfl) (fun bq4 offq4 hAq4 => ?_)
 refine e9 [] (by kernel_rfl) (fun ρ σ hq5 => ?_)
 refine ca [0,1,4,5] [21,20,17,16,0,1,12,13] 5 [(21,aI (k : Int)),(20,.v (.slice Ab b.length Cb)),(17,aI (k : Int)),(16,.v (.slice Aa a.length Ca)),(0,.v (.slice Aa a.length Ca)),(1,.v (.slice Ab b.length Cb)),(12,aI ((a.length : Nat) : Int)),(13,aI (k : Int))] <| fZ (kd := .i64) (T := 39) (e := 85) (K := 2) (j := k) (A := Aa) (len := a.length) (cap := Ca) 2 0 _ rfl (by kernel_rfl) (by kernel_rfl) (by kernel_rfl) (fun _ _ h => h) (by kernel_rfl) rfl rfl (by kernel_rfl) (by kernel_rfl) (by kernel_rfl) (by kernel_rfl) hlt hAq3 hq5.1.2 (by kernel_rfl) rfl ?_
 refine ca [3] [19,21,20,0,1,12,13] 3 [(19,.v (.agg (ff x).toArray)),(21,aI (k : Int)),(20,.v (.slice Ab b.length Cb)),(0,.v (.slice Aa a.length Ca)),(1,.v (.slice Ab b.length Cb)),(12,aI ((a.length : Nat) : Int)),(13,aI (k : Int))] <| fZ (kd := .i64) (T := 39) (e := 85) (K := 2) (j := k) (A := Ab) (len := b.length) (cap := Cb) 6 1 _ rfl (by kernel_rfl) (by kernel_rfl) (by kernel_rfl) (fun _ _ h => h) (by kernel_rfl) rfl rfl (by kernel_rfl) (by kernel_rfl) (by kernel_rfl) (by kernel_rfl) (by omega) hAq4 hq5.2 (by kernel_rfl) rfl ?_
 refine ca [7] [23,19,0,1,12,13] 1 [(23,.v (.agg (ff y).toArray)),(19,.v (.agg (ff x).toArray)),(0,.v (.slice Aa a.length Ca)),(1,.v (.slice Ab b.length Cb)),(12,aI ((a.length : Nat) : Int)),(13,aI (k : Int))] <| kX 8 (.bool (!ev x y)) rfl (fun _ _ ww hA => cj hA rfl (by kernel_rfl) (by kernel_rfl) (fJ (by kernel_rfl) (run_neq_PCE x.off x.text y.off y.text ww))) ?_
 refine kZ <| kC (!ev x y) (fun h6 => ?_) (fun h6 => ?_)
 have hno := sameL_no hx hy (by simpa using h6)
 refine kQ <| aJ [4] [(4,aB false)] <| kR ?_
 exact ⟨[.bool false],by kernel_rfl,fun w' hb hf => ⟨aU (show (false : Bool) = ew ev a b from by first | rfl | (simp [ct, *]; done) | grind [ct,ct]),hb⟩⟩
 have hye : ev x y = true := by simpa using h6
 refine kK <| kG <| cR 2 [0,1,12,13] [(0,.v (.slice Aa a.length Ca)),(1,.v (.slice Ab b.length Cb)),(12,aI ((a.length : Nat) : Int)),(13,aI (K6.wrap ((k : Int) + 1)))] <| dg (t' := [(0,.v (.slice Aa a.length Ca)),(1,.v (.slice Ab b.length Cb)),(12,aI ((a.length : Nat) : Int)),(13,aI ((k : Int) + 1))]) (by rw [show (K6.wrap ((k : Int) + 1)) = ((k : Int) + 1) from ab (by omega) (by omega)]) ?_
 refine aJ [0,1,12,13] [(0,.v (.slice Aa a.length Ca)),(1,.v (.slice Ab b.length Cb)),(12,aI ((a.length : Nat) : Int)),(13,aI ((k : Int) + 1))] ?_
 exact ⟨⟨(k + 1),⟨by omega,same_step hx hy hye HK⟩⟩,kF 0 0 [0,1,12,13],by show a.length - (k + 1) < a.length - k; omega⟩
 have h2p := of_decide_eq_false h2
 have hge : k = a.length := by simp at h2; omega
 have hall := ig hge hlen HK
 refine cq <| kQ <| aJ [4] [(4,aB true)] <| kR ?_
 exact ⟨[.bool true],by kernel_rfl,fun w' hb hf => ⟨aU (show (true : Bool) = ew ev a b from by first | rfl | (simp [ct, *]; done) | grind [ct,ct]),hb⟩⟩
theorem yiSameReceiver_c (a : Rcv) (a_heldV : Value) (b : Rcv) (b_heldV : Value) (w : World) (hl_a_heldV : Sl w a_heldV 2 (a.held.map pC)) (hl_b_heldV : Sl w b_heldV 2 (b.held.map pC))  : Calls Tryz.prog 57 #[.agg (ah a a_heldV).toArray, .agg (ah b b_heldV).toArray] w fun e w' => e = .returned (.bool (bw a b)) ∧ Below w.heap.size w w' := by
 obtain ⟨Aah,Cah,hvah⟩ := hl_a_heldV.form
 rw [List.length_map] at hvah; subst hvah
 have hnah := hl_a_heldV.len; rw [List.length_map] at hnah
 have hqah := Sl.capLe hl_a_heldV
 obtain ⟨Abh,Cbh,hvbh⟩ := hl_b_heldV.form
 rw [List.length_map] at hvbh; subst hvbh
 have hnbh := hl_b_heldV.len; rw [List.length_map] at hnbh
 have hqbh := Sl.capLe hl_b_heldV
 refine bH (args := [.agg (ah a (.slice Aah a.held.length Cah)).toArray,.agg (ah b (.slice Abh b.held.length Cbh)).toArray]) (fn := Tryz.f57) [c7 (.slice Aah a.held.length Cah) 2 (a.held.map pC),c7 (.slice Abh b.held.length Cbh) 2 (b.held.map pC)] Tryz.func57 rfl Tryz.ntmps57 rfl (by simp only [List.mem_cons,List.not_mem_nil,or_false,forall_eq_or_imp,forall_eq]; exact ⟨⟨rfl,hl_a_heldV⟩,⟨rfl,hl_b_heldV⟩⟩) ?_
 refine kQ <| c8 [2,3] ⟨[(2,.p 0 0),(3,.p 1 0)],[⟨41,ah a (.slice Aah a.held.length Cah)⟩,⟨41,ah b (.slice Abh b.held.length Cbh)⟩],[],[c7 (.slice Aah a.held.length Cah) 2 (a.held.map pC),c7 (.slice Abh b.held.length Cbh) 2 (b.held.map pC)]⟩ <| kS <| bo ⟨[(4,aB ((a.next == b.next) && ((a.data.toList == b.data.toList) && ((ew ev a.held b.held) && ((a.fin == b.fin) && (a.done == b.done))))))],[⟨41,ah a (.slice Aah a.held.length Cah)⟩,⟨41,ah b (.slice Abh b.held.length Cbh)⟩],[],[c7 (.slice Aah a.held.length Cah) 2 (a.held.map pC),c7 (.slice Abh b.held.length Cbh) 2 (b.held.map pC)]⟩ ?_ ?_
 refine kG <| cR 6 [2,3,10] [(2,.p 0 0),(3,.p 1 0),(10,aB (a.next == b.next))] <| kP 10 (a.next == b.next) (fun h1 => ?_) (fun h1 => ?_)
 have h1p := bC h1
 refine cR 7 [2,3,17] [(2,.p 0 0),(3,.p 1 0),(17,aB (a.data.toList == b.data.toList))] <| kP 17 (a.data.toList == b.data.toList) (fun h2 => ?_) (fun h2 => ?_)
 have h2p := h2; simp only [beq_iff_eq,bne_iff_ne,beq_eq_false_iff_ne,bne_eq_false_iff_eq,ne_eq,bv] at h2p
 refine dh 4 [2,3,17,19,21] [(2,.p 0 0),(3,.p 1 0),(17,aB true),(19,.v (.slice Aah a.held.length Cah)),(21,.v (.slice Abh b.held.length Cbh))] 112 [.slice Aah a.held.length Cah,.slice Abh b.held.length Cbh] (some 22) rfl (aA fun ww hf => yEqualPiece_c a.held (.slice Aah a.held.length Cah) b.held (.slice Abh b.held.length Cbh) ww (hf _ m0) (hf _ m1) ) ?_
 intro _
 refine cR 2 [2,3,24] [(2,.p 0 0),(3,.p 1 0),(24,aB (ew ev a.held b.held))] <| kP 24 (ew ev a.held b.held) (fun h3 => ?_) (fun h3 => ?_)
 refine cR 7 [2,3,31] [(2,.p 0 0),(3,.p 1 0),(31,aB (a.fin == b.fin))] <| kP 31 (a.fin == b.fin) (fun h4 => ?_) (fun h4 => ?_)
 have h4p := bC h4
 refine aJ [4] [(4,aB (a.done == b.done))] ?_
 show Wk _ _
 try rw [h1]
 try rw [h2]
 try rw [h3]
 try rw [h4]
 exact kF 2 0 [4]
 have h4p := bA h4
 refine aJ [4] [(4,aB false)] ?_
 show Wk _ _
 try rw [h1]
 try rw [h2]
 try rw [h3]
 try rw [h4]
 exact kF 2 0 [4]
 refine aJ [4] [(4,aB false)] ?_
 show Wk _ _
 try rw [h1]
 try rw [h2]
 try rw [h3]
 exact kF 2 0 [4]
 have h2p := h2; simp only [beq_iff_eq,bne_iff_ne,beq_eq_false_iff_ne,bne_eq_false_iff_eq,ne_eq,bv] at h2p
 refine aJ [4] [(4,aB false)] ?_
 show Wk _ _
 try rw [h1]
 try rw [h2]
 exact kF 2 0 [4]
 have h1p := bA h1
 refine aJ [4] [(4,aB false)] ?_
 show Wk _ _
 try rw [h1]
 exact kF 2 0 [4]
 refine kR ?_
 exact ⟨[.bool ((a.next == b.next) && ((a.data.toList == b.data.toList) && ((ew ev a.held b.held) && ((a.fin == b.fin) && (a.done == b.done)))))],by kernel_rfl,fun w' hb hf => ⟨aU (show ((a.next == b.next) && ((a.data.toList == b.data.toList) && ((ew ev a.held b.held) && ((a.fin == b.fin) && (a.done == b.done)))) : Bool) = bw a b from by first | rfl | (simp [bw, *]; done) | grind [bw,ct]),hb⟩⟩
theorem iZ (a : Con) (a_r_heldV : Value) (b : Con) (b_r_heldV : Value) (w : World) (hl_a_r_heldV : Sl w a_r_heldV 2 (a.r.held.map pC)) (hl_b_r_heldV : Sl w b_r_heldV 2 (b.r.held.map pC))  : Calls Tryz.prog 20 #[.agg (a7 a a_r_heldV).toArray, .agg (a7 b b_r_heldV).toArray] w fun e w' => e = .returned (.bool (dn a b)) ∧ Below w.heap.size w w' := by
 obtain ⟨Aarh,Carh,hvarh⟩ := hl_a_r_heldV.form
 rw [List.length_map] at hvarh; subst hvarh
 have hnarh := hl_a_r_heldV.len; rw [List.length_map] at hnarh
 have hqarh := Sl.capLe hl_a_r_heldV
 obtain ⟨Abrh,Cbrh,hvbrh⟩ := hl_b_r_heldV.form
 rw [List.length_map] at hvbrh; subst hvbrh
 have hnbrh := hl_b_r_heldV.len; rw [List.length_map] at hnbrh
 have hqbrh := Sl.capLe hl_b_r_heldV
 refine bH (args := [.agg (a7 a (cS Aarh a Carh)).toArray,.agg (a7 b (cS Abrh b Cbrh)).toArray]) (fn := Tryz.f20) [cH Aarh a Carh,cH Abrh b Cbrh] Tryz.func20 rfl Tryz.ntmps20 rfl (by simp only [List.mem_cons,List.not_mem_nil,or_false,forall_eq_or_imp,forall_eq]; exact ⟨⟨rfl,hl_a_r_heldV⟩,⟨rfl,hl_b_r_heldV⟩⟩) ?_
 refine kQ <| c8 [2,3] ⟨[(2,.p 0 0),(3,.p 1 0)],[⟨44,a7 a (cS Aarh a Carh)⟩,⟨44,a7 b (cS Abrh b Cbrh)⟩],[],[cH Aarh a Carh,cH Abrh b Cbrh]⟩ <| kS <| bo ⟨[(4,aB ((fE a.t b.t) && ((a.state == b.state) && ((eL a.s b.s) && ((bw a.r b.r) && ((a.window == b.window) && ((a.most == b.most) && ((fj a.o b.o) && ((a.timer == b.timer) && (a.tries == b.tries))))))))))],[⟨44,a7 a (cS Aarh a Carh)⟩,⟨44,a7 b (cS Abrh b Cbrh)⟩],[],[cH Aarh a Carh,cH Abrh b Cbrh]⟩ ?_ ?_
 refine kG <| i8 4 [2,3,6,8] [(2,.p 0 0),(3,.p 1 0),(6,.v (.agg (dI a.t).toArray)),(8,.v (.agg (dI b.t).toArray))] (.bool (fE a.t b.t)) rfl (fun _ _ _ ww hr => cj hr.1 rfl (by kernel_rfl) (by kernel_rfl) (fJ (by kernel_rfl) (run_eql_TUP a.t.ip a.t.port a.t.my b.t.ip b.t.port b.t.my ww))) ?_
 refine cR 1 [2,3,10] [(2,.p 0 0),(3,.p 1 0),(10,aB (fE a.t b.t))] <| kP 10 (fE a.t b.t) (fun h1 => ?_) (fun h1 => ?_)
 refine cR 7 [2,3,17] [(2,.p 0 0),(3,.p 1 0),(17,aB (a.state == b.state))] <| kP 17 (a.state == b.state) (fun h2 => ?_) (fun h2 => ?_)
 have h2p := bC h2
 refine i8 4 [2,3,17,19,21] [(2,.p 0 0),(3,.p 1 0),(17,aB true),(19,.v (.agg (ai a.s).toArray)),(21,.v (.agg (ai b.s).toArray))] (.bool (eL a.s b.s)) rfl (fun _ _ _ ww hr => cj hr.1 rfl (by kernel_rfl) (by kernel_rfl) (fJ (by kernel_rfl) (run_eql_SND a.s.una a.s.data a.s.sent a.s.fin a.s.finSent a.s.done b.s.una b.s.data b.s.sent b.s.fin b.s.finSent b.s.done ww))) ?_
 refine cR 2 [2,3,24] [(2,.p 0 0),(3,.p 1 0),(24,aB (eL a.s b.s))] <| kP 24 (eL a.s b.s) (fun h3 => ?_) (fun h3 => ?_)
 refine dh 4 [2,3,24,26,28] [(2,.p 0 0),(3,.p 1 0),(24,aB true),(26,.v (.agg (ah a.r (cS Aarh a Carh)).toArray)),(28,.v (.agg (ah b.r (cS Abrh b Cbrh)).toArray))] 23 [.agg (ah a.r (cS Aarh a Carh)).toArray,.agg (ah b.r (cS Abrh b Cbrh)).toArray] (some 29) rfl (aA fun ww hf => iy a.r (cS Aarh a Carh) b.r (cS Abrh b Cbrh) ww (hf _ m0) (hf _ m1) ) ?_
 intro _
 refine cR 2 [2,3,31] [(2,.p 0 0),(3,.p 1 0),(31,aB (bw a.r b.r))] <| kP 31 (bw a.r b.r) (fun h4 => ?_) (fun h4 => ?_)
 refine cR 7 [2,3,38] [(2,.p 0 0),(3,.p 1 0),(38,aB (a.window == b.window))] <| kP 38 (a.window == b.window) (fun h5 => ?_) (fun h5 => ?_)
 have h5p := bC h5
 refine cR 7 [2,3,45] [(2,.p 0 0),(3,.p 1 0),(45,aB (a.most == b.most))] <| kP 45 (a.most == b.most) (fun h6 => ?_) (fun h6 => ?_)
 have h6p := bC h6
 refine i8 4 [2,3,45,47,49] [(2,.p 0 0),(3,.p 1 0),(45,aB true),(47,.v (.agg (df a.o).toArray)),(49,.v (.agg (df b.o).toArray))] (.bool (fj a.o b.o)) rfl (fun _ _ _ ww hr => cj hr.1 rfl (by kernel_rfl) (by kernel_rfl) (fJ (by kernel_rfl) (run_eql_OPT a.o.mss a.o.scale a.o.sack a.o.stamp a.o.val a.o.echo b.o.mss b.o.scale b.o.sack b.o.stamp b.o.val b.o.echo ww))) ?_
 refine cR 2 [2,3,52] [(2,.p 0 0),(3,.p 1 0),(52,aB (fj a.o b.o))] <| kP 52 (fj a.o b.o) (fun h7 => ?_) (fun h7 => ?_)
 refine cR 7 [2,3,59] [(2,.p 0 0),(3,.p 1 0),(59,aB (a.timer == b.timer))] <| kP 59 (a.timer == b.timer) (fun h8 => ?_) (fun h8 => ?_)
 have h8p := bC h8
 refine aJ [4] [(4,aB (a.tries == b.tries))] ?_
 show Wk _ _
 try rw [h1]
 try rw [h2]
 try rw [h3]
 try rw [h4]
 try rw [h5]
 try rw [h6]
 try rw [h7]
 try rw [h8]
 exact kF 2 0 [4]
 have h8p := bA h8
 refine aJ [4] [(4,aB false)] ?_
 show Wk _ _
 try rw [h1]
 try rw [h2]
 try rw [h3]
 try rw [h4]
 try rw [h5]
 try rw [h6]
 try rw [h7]
 try rw [h8]
 exact kF 2 0 [4]
 refine aJ [4] [(4,aB false)] ?_
 show Wk _ _
 try rw [h1]
 try rw [h2]
 try rw [h3]
 try rw [h4]
 try rw [h5]
 try rw [h6]
 try rw [h7]
 exact kF 2 0 [4]
 have h6p := bA h6
 refine aJ [4] [(4,aB false)] ?_
 show Wk _ _
 try rw [h1]
 try rw [h2]
 try rw [h3]
 try rw [h4]
 try rw [h5]
 try rw [h6]
 exact kF 2 0 [4]
 have h5p := bA h5
 refine aJ [4] [(4,aB false)] ?_
 show Wk _ _
 try rw [h1]
 try rw [h2]
 try rw [h3]
 try rw [h4]
 try rw [h5]
 exact kF 2 0 [4]
 refine aJ [4] [(4,aB false)] ?_
 show Wk _ _
 try rw [h1]
 try rw [h2]
 try rw [h3]
 try rw [h4]
 exact kF 2 0 [4]
 refine aJ [4] [(4,aB false)] ?_
 show Wk _ _
 try rw [h1]
 try rw [h2]
 try rw [h3]
 exact kF 2 0 [4]
 have h2p := bA h2
 refine aJ [4] [(4,aB false)] ?_
 show Wk _ _
 try rw [h1]
 try rw [h2]
 exact kF 2 0 [4]
 refine aJ [4] [(4,aB false)] ?_
 show Wk _ _
 try rw [h1]
 exact kF 2 0 [4]
 refine kR ?_
 exact ⟨[.bool ((fE a.t b.t) && ((a.state == b.state) && ((eL a.s b.s) && ((bw a.r b.r) && ((a.window == b.window) && ((a.most == b.most) && ((fj a.o b.o) && ((a.timer == b.timer) && (a.tries == b.tries)))))))))],by kernel_rfl,fun w' hb hf => ⟨aU (show ((fE a.t b.t) && ((a.state == b.state) && ((eL a.s b.s) && ((bw a.r b.r) && ((a.window == b.window) && ((a.most == b.most) && ((fj a.o b.o) && ((a.timer == b.timer) && (a.tries == b.tries)))))))) : Bool) = dn a b from by first | rfl | (simp [dn, *]; done) | grind [dn,ct]),hb⟩⟩
theorem yiSameConn_c (a : Con) (a_r_heldV : Value) (b : Con) (b_r_heldV : Value) (w : World) (hl_a_r_heldV : Sl w a_r_heldV 2 (a.r.held.map pC)) (hl_b_r_heldV : Sl w b_r_heldV 2 (b.r.held.map pC))  : Calls Tryz.prog 22 #[.agg (a7 a a_r_heldV).toArray, .agg (a7 b b_r_heldV).toArray] w fun e w' => e = .returned (.bool (dn a b)) ∧ Below w.heap.size w w' := by
 obtain ⟨Aarh,Carh,hvarh⟩ := hl_a_r_heldV.form
 rw [List.length_map] at hvarh; subst hvarh
 have hnarh := hl_a_r_heldV.len; rw [List.length_map] at hnarh
 have hqarh := Sl.capLe hl_a_r_heldV
 obtain ⟨Abrh,Cbrh,hvbrh⟩ := hl_b_r_heldV.form
 rw [List.length_map] at hvbrh; subst hvbrh
 have hnbrh := hl_b_r_heldV.len; rw [List.length_map] at hnbrh
 have hqbrh := Sl.capLe hl_b_r_heldV
 refine bH (args := [.agg (a7 a (cS Aarh a Carh)).toArray,.agg (a7 b (cS Abrh b Cbrh)).toArray]) (fn := Tryz.f22) [cH Aarh a Carh,cH Abrh b Cbrh] Tryz.func22 rfl Tryz.ntmps22 rfl (by simp only [List.mem_cons,List.not_mem_nil,or_false,forall_eq_or_imp,forall_eq]; exact ⟨⟨rfl,hl_a_r_heldV⟩,⟨rfl,hl_b_r_heldV⟩⟩) ?_
 refine kQ <| c8 [2,3] ⟨[(2,.p 0 0),(3,.p 1 0)],[⟨44,a7 a (cS Aarh a Carh)⟩,⟨44,a7 b (cS Abrh b Cbrh)⟩],[],[cH Aarh a Carh,cH Abrh b Cbrh]⟩ <| kS <| bo ⟨[(4,aB ((fE a.t b.t) && ((a.state == b.state) && ((eL a.s b.s) && ((bw a.r b.r) && ((a.window == b.window) && ((a.most == b.most) && ((fj a.o b.o) && ((a.timer == b.timer) && (a.tries == b.tries))))))))))],[⟨44,a7 a (cS Aarh a Carh)⟩,⟨44,a7 b (cS Abrh b Cbrh)⟩],[],[cH Aarh a Carh,cH Abrh b Cbrh]⟩ ?_ ?_
 refine kG <| i8 4 [2,3,6,8] [(2,.p 0 0),(3,.p 1 0),(6,.v (.agg (dI a.t).toArray)),(8,.v (.agg (dI b.t).toArray))] (.bool (fE a.t b.t)) rfl (fun _ _ _ ww hr => cj hr.1 rfl (by kernel_rfl) (by kernel_rfl) (fJ (by kernel_rfl) (run_eql_TUP a.t.ip a.t.port a.t.my b.t.ip b.t.port b.t.my ww))) ?_
 refine cR 1 [2,3,10] [(2,.p 0 0),(3,.p 1 0),(10,aB (fE a.t b.t))] <| kP 10 (fE a.t b.t) (fun h1 => ?_) (fun h1 => ?_)
 refine cR 7 [2,3,17] [(2,.p 0 0),(3,.p 1 0),(17,aB (a.state == b.state))] <| kP 17 (a.state == b.state) (fun h2 => ?_) (fun h2 => ?_)
 have h2p := bC h2
 refine i8 4 [2,3,17,19,21] [(2,.p 0 0),(3,.p 1 0),(17,aB true),(19,.v (.agg (ai a.s).toArray)),(21,.v (.agg (ai b.s).toArray))] (.bool (eL a.s b.s)) rfl (fun _ _ _ ww hr => cj hr.1 rfl (by kernel_rfl) (by kernel_rfl) (fJ (by kernel_rfl) (run_eql_SND a.s.una a.s.data a.s.sent a.s.fin a.s.finSent a.s.done b.s.una b.s.data b.s.sent b.s.fin b.s.finSent b.s.done ww))) ?_
 refine cR 2 [2,3,24] [(2,.p 0 0),(3,.p 1 0),(24,aB (eL a.s b.s))] <| kP 24 (eL a.s b.s) (fun h3 => ?_) (fun h3 => ?_)
 refine dh 4 [2,3,24,26,28] [(2,.p 0 0),(3,.p 1 0),(24,aB true),(26,.v (.agg (ah a.r (cS Aarh a Carh)).toArray)),(28,.v (.agg (ah b.r (cS Abrh b Cbrh)).toArray))] 57 [.agg (ah a.r (cS Aarh a Carh)).toArray,.agg (ah b.r (cS Abrh b Cbrh)).toArray] (some 29) rfl (aA fun ww hf => yiSameReceiver_c a.r (cS Aarh a Carh) b.r (cS Abrh b Cbrh) ww (hf _ m0) (hf _ m1) ) ?_
 intro _
 refine cR 2 [2,3,31] [(2,.p 0 0),(3,.p 1 0),(31,aB (bw a.r b.r))] <| kP 31 (bw a.r b.r) (fun h4 => ?_) (fun h4 => ?_)
 refine cR 7 [2,3,38] [(2,.p 0 0),(3,.p 1 0),(38,aB (a.window == b.window))] <| kP 38 (a.window == b.window) (fun h5 => ?_) (fun h5 => ?_)
 have h5p := bC h5
 refine cR 7 [2,3,45] [(2,.p 0 0),(3,.p 1 0),(45,aB (a.most == b.most))] <| kP 45 (a.most == b.most) (fun h6 => ?_) (fun h6 => ?_)
 have h6p := bC h6
 refine i8 4 [2,3,45,47,49] [(2,.p 0 0),(3,.p 1 0),(45,aB true),(47,.v (.agg (df a.o).toArray)),(49,.v (.agg (df b.o).toArray))] (.bool (fj a.o b.o)) rfl (fun _ _ _ ww hr => cj hr.1 rfl (by kernel_rfl) (by kernel_rfl) (fJ (by kernel_rfl) (run_eql_OPT a.o.mss a.o.scale a.o.sack a.o.stamp a.o.val a.o.echo b.o.mss b.o.scale b.o.sack b.o.stamp b.o.val b.o.echo ww))) ?_
 refine cR 2 [2,3,52] [(2,.p 0 0),(3,.p 1 0),(52,aB (fj a.o b.o))] <| kP 52 (fj a.o b.o) (fun h7 => ?_) (fun h7 => ?_)
 refine cR 7 [2,3,59] [(2,.p 0 0),(3,.p 1 0),(59,aB (a.timer == b.timer))] <| kP 59 (a.timer == b.timer) (fun h8 => ?_) (fun h8 => ?_)
 have h8p := bC h8
 refine aJ [4] [(4,aB (a.tries == b.tries))] ?_
 show Wk _ _
 try rw [h1]
 try rw [h2]
 try rw [h3]
 try rw [h4]
 try rw [h5]
 try rw [h6]
 try rw [h7]
 try rw [h8]
 exact kF 2 0 [4]
 have h8p := bA h8
 refine aJ [4] [(4,aB false)] ?_
 show Wk _ _
 try rw [h1]
 try rw [h2]
 try rw [h3]
 try rw [h4]
 try rw [h5]
 try rw [h6]
 try rw [h7]
 try rw [h8]
 exact kF 2 0 [4]
 refine aJ [4] [(4,aB false)] ?_
 show Wk _ _
 try rw [h1]
 try rw [h2]
 try rw [h3]
 try rw [h4]
 try rw [h5]
 try rw [h6]
 try rw [h7]
 exact kF 2 0 [4]
 have h6p := bA h6
 refine aJ [4] [(4,aB false)] ?_
 show Wk _ _
 try rw [h1]
 try rw [h2]
 try rw [h3]
 try rw [h4]
 try rw [h5]
 try rw [h6]
 exact kF 2 0 [4]
 have h5p := bA h5
 refine aJ [4] [(4,aB false)] ?_
 show Wk _ _
 try rw [h1]
 try rw [h2]
 try rw [h3]
 try rw [h4]
 try rw [h5]
 exact kF 2 0 [4]
 refine aJ [4] [(4,aB false)] ?_
 show Wk _ _
 try rw [h1]
 try rw [h2]
 try rw [h3]
 try rw [h4]
 exact kF 2 0 [4]
 refine aJ [4] [(4,aB false)] ?_
 show Wk _ _
 try rw [h1]
 try rw [h2]
 try rw [h3]
 exact kF 2 0 [4]
 have h2p := bA h2
 refine aJ [4] [(4,aB false)] ?_
 show Wk _ _
 try rw [h1]
 try rw [h2]
 exact kF 2 0 [4]
 refine aJ [4] [(4,aB false)] ?_
 show Wk _ _
 try rw [h1]
 exact kF 2 0 [4]
 refine kR ?_
 exact ⟨[.bool ((fE a.t b.t) && ((a.state == b.state) && ((eL a.s b.s) && ((bw a.r b.r) && ((a.window == b.window) && ((a.most == b.most) && ((fj a.o b.o) && ((a.timer == b.timer) && (a.tries == b.tries)))))))))],by kernel_rfl,fun w' hb hf => ⟨aU (show ((fE a.t b.t) && ((a.state == b.state) && ((eL a.s b.s) && ((bw a.r b.r) && ((a.window == b.window) && ((a.most == b.most) && ((fj a.o b.o) && ((a.timer == b.timer) && (a.tries == b.tries)))))))) : Bool) = dn a b from by first | rfl | (simp [dn, *]; done) | grind [dn,ct]),hb⟩⟩
theorem l19Fin_c (k : Int) (w : World)  : Calls Tryz.prog 68 #[iI k] w fun e w' => e = .returned (.bool (decide (k ≠ 1 ∧ k ≠ 4))) ∧ Below w.heap.size w w' := by
 refine bH (args := [iI k]) (fn := Tryz.f68) [] Tryz.func68 rfl Tryz.ntmps68 rfl (by simp) ?_
 refine kQ <| c8 [0] ⟨[(0,aI k)],[],[],[]⟩ <| kS <| bo ⟨[(2,aB ((k != 1) && (k != 4)))],[],[],[]⟩ ?_ ?_
 refine kG <| cR 3 [0,5] [(0,aI k),(5,aB (k != 1))] <| kP 5 (k != 1) (fun h1 => ?_) (fun h1 => ?_)
 have h1p := neT h1
 refine aJ [2] [(2,aB (k != 4))] ?_
 show Wk _ _
 try rw [h1]
 exact kF 0 0 [2]
 have h1p := neF h1
 refine aJ [2] [(2,aB false)] ?_
 show Wk _ _
 try rw [h1]
 exact kF 0 0 [2]
 refine kR ?_
 exact ⟨[.bool ((k != 1) && (k != 4))],by kernel_rfl,fun w' hb hf => ⟨aU (show ((k != 1) && (k != 4) : Bool) = decide (k ≠ 1 ∧ k ≠ 4) from by first | rfl | (simp [*]; done) | (simp [*]; omega) | grind [bv]),hb⟩⟩
@[simp] theorem inB18_1 : ci 1 1 8 = true := rfl
@[simp] theorem inB18_2 : ci 2 1 8 = true := rfl
@[simp] theorem inB18_3 : ci 3 1 8 = true := rfl
@[simp] theorem inB18_4 : ci 4 1 8 = true := rfl
@[simp] theorem inB18_5 : ci 5 1 8 = true := rfl
@[simp] theorem inB18_6 : ci 6 1 8 = true := rfl
@[simp] theorem inB18_7 : ci 7 1 8 = true := rfl
@[simp] theorem inB18_8 : ci 8 1 8 = true := rfl
theorem es (c : Con) (rV : Value) (w : World) (hZ : Sl w rV 2 (c.r.held.map pC)) (hm : ∀ p ∈ c.r.held, p.text.size ≤ 1048576) (hsz : c.r.data.size ≤ 4611686018427387904) : Calls Tryz.prog 25 #[.agg (a7 c rV).toArray] w fun e w' => e = .returned (.bool (aW c)) ∧ Below w.heap.size w w' := by
 obtain ⟨Z,Y,hY⟩ := hZ.form
 rw [List.length_map] at hY; subst hY
 have hJ := hZ.len; rw [List.length_map] at hJ
 have hqcrh := Sl.capLe hZ
 refine bH (args := [.agg (a7 c (cS Z c Y)).toArray]) (fn := Tryz.f25) [cH Z c Y] Tryz.func25 rfl Tryz.ntmps25 rfl (by simp only [List.mem_cons,List.not_mem_nil,or_false,forall_eq_or_imp,forall_eq]; exact ⟨rfl,hZ⟩) ?_
 refine kQ <| c8 [1] ⟨[(1,.p 0 0)],[⟨44,a7 c (cS Z c Y)⟩],[],[cH Z c Y]⟩ <| kS <| kS <| bo ⟨[(1,.p 0 0),(52,aB ((!(dw c.t)) || ((!(aa c.s)) || ((!(rO c.r)) || ((!(bl c.o)) || ((!(ci c.state 1 8)) || ((!(ci c.window 0 c.most)) || ((decide (c.most > 1073725440)) || (!(ci c.tries 0 3))))))))))],[⟨44,a7 c (cS Z c Y)⟩],[],[cH Z c Y]⟩ ?_ ?_
 refine kG <| dh 2 [1,7] [(1,.p 0 0),(7,.v (.agg (dI c.t).toArray))] 63 [.agg (dI c.t).toArray] (some 8) rfl (aA fun ww hf => sTupleOk_c c.t.ip c.t.port c.t.my ww ) ?_
 intro _
 refine cR 2 [1,10] [(1,.p 0 0),(10,aB (!(dw c.t)))] <| kP 10 (!(dw c.t)) (fun h1 => ?_) (fun h1 => ?_)
 have h1n := bg h1
 refine aJ [1,52] [(1,.p 0 0),(52,aB true)] ?_
 show Wk _ _
 try rw [h1]
 exact kF 1 0 [1,52]
 have h1n := aD h1
 refine dh 2 [1,10,12] [(1,.p 0 0),(10,aB false),(12,.v (.agg (ai c.s).toArray))] 64 [.agg (ai c.s).toArray] (some 13) rfl (aA fun ww hf => eP c.s.una c.s.data c.s.sent c.s.fin c.s.finSent c.s.done ww ) ?_
 intro _
 refine cR 3 [1,16] [(1,.p 0 0),(16,aB (!(aa c.s)))] <| kP 16 (!(aa c.s)) (fun h2 => ?_) (fun h2 => ?_)
 have h2n := bg h2
 refine aJ [1,52] [(1,.p 0 0),(52,aB true)] ?_
 show Wk _ _
 try rw [h1]
 try rw [h2]
 exact kF 1 0 [1,52]
 have h2n := aD h2
 refine dh 2 [1,16,18] [(1,.p 0 0),(16,aB false),(18,.v (.agg (ah c.r (cS Z c Y)).toArray))] 65 [.agg (ah c.r (cS Z c Y)).toArray] (some 19) rfl (aA fun ww hf => gS c.r (cS Z c Y) ww (hf _ m0) (by assumption) (by omega)) ?_
 intro _
 refine cR 3 [1,22] [(1,.p 0 0),(22,aB (!(rO c.r)))] <| kP 22 (!(rO c.r)) (fun h3 => ?_) (fun h3 => ?_)
 have h3n := bg h3
 refine aJ [1,52] [(1,.p 0 0),(52,aB true)] ?_
 show Wk _ _
 try rw [h1]
 try rw [h2]
 try rw [h3]
 exact kF 1 0 [1,52]
 have h3n := aD h3
 refine dh 2 [1,22,24] [(1,.p 0 0),(22,aB false),(24,.v (.agg (df c.o).toArray))] 66 [.agg (df c.o).toArray] (some 25) rfl (aA fun ww hf => ie c.o.mss c.o.scale c.o.sack c.o.stamp c.o.val c.o.echo ww ) ?_
 intro _
 refine cR 3 [1,28] [(1,.p 0 0),(28,aB (!(bl c.o)))] <| kP 28 (!(bl c.o)) (fun h4 => ?_) (fun h4 => ?_)
 have h4n := bg h4
 refine aJ [1,52] [(1,.p 0 0),(52,aB true)] ?_
 show Wk _ _
 try rw [h1]
 try rw [h2]
 try rw [h3]
 try rw [h4]
 exact kF 1 0 [1,52]
 have h4n := aD h4
 refine dh 2 [1,28,30] [(1,.p 0 0),(28,aB false),(30,aI c.state)] 67 [iI c.state,iI 1,iI 8] (some 31) rfl (bM fun ww hf => f0 c.state 1 8 ww ) ?_
 intro _
 refine cR 3 [1,34] [(1,.p 0 0),(34,aB (!(ci c.state 1 8)))] <| kP 34 (!(ci c.state 1 8)) (fun h5 => ?_) (fun h5 => ?_)
 have h5n := bg h5
 refine aJ [1,52] [(1,.p 0 0),(52,aB true)] ?_
 show Wk _ _
 try rw [h1]
 try rw [h2]
 try rw [h3]
 try rw [h4]
 try rw [h5]
 exact kF 1 0 [1,52]
 have h5n := aD h5
 refine dh 4 [1,34,36,38] [(1,.p 0 0),(34,aB false),(36,aI c.window),(38,aI c.most)] 67 [iI c.window,iI 0,iI c.most] (some 39) rfl (bM fun ww hf => f0 c.window 0 c.most ww ) ?_
 intro _
 refine cR 3 [1,42] [(1,.p 0 0),(42,aB (!(ci c.window 0 c.most)))] <| kP 42 (!(ci c.window 0 c.most)) (fun h6 => ?_) (fun h6 => ?_)
 have h6n := bg h6
 refine aJ [1,52] [(1,.p 0 0),(52,aB true)] ?_
 show Wk _ _
 try rw [h1]
 try rw [h2]
 try rw [h3]
 try rw [h4]
 try rw [h5]
 try rw [h6]
 exact kF 1 0 [1,52]
 have h6n := aD h6
 refine cR 5 [1,47] [(1,.p 0 0),(47,aB (decide (c.most > 1073725440)))] <| kP 47 (decide (c.most > 1073725440)) (fun h7 => ?_) (fun h7 => ?_)
 have h7p := of_decide_eq_true h7
 refine aJ [1,52] [(1,.p 0 0),(52,aB true)] ?_
 show Wk _ _
 try rw [h1]
 try rw [h2]
 try rw [h3]
 try rw [h4]
 try rw [h5]
 try rw [h6]
 try rw [h7]
 exact kF 1 0 [1,52]
 have h7p := of_decide_eq_false h7
 refine dh 2 [1,47,49] [(1,.p 0 0),(47,aB false),(49,aI c.tries)] 67 [iI c.tries,iI 0,iI 3] (some 50) rfl (bM fun ww hf => f0 c.tries 0 3 ww ) ?_
 intro _
 refine aJ [1,52] [(1,.p 0 0),(52,aB (!(ci c.tries 0 3)))] ?_
 show Wk _ _
 try rw [h1]
 try rw [h2]
 try rw [h3]
 try rw [h4]
 try rw [h5]
 try rw [h6]
 try rw [h7]
 exact kF 1 0 [1,52]
 refine kC ((!(dw c.t)) || ((!(aa c.s)) || ((!(rO c.r)) || ((!(bl c.o)) || ((!(ci c.state 1 8)) || ((!(ci c.window 0 c.most)) || ((decide (c.most > 1073725440)) || (!(ci c.tries 0 3))))))))) (fun h8 => ?_) (fun h8 => ?_)
 refine kQ <| aJ [2] [(2,aB false)] <| kR ?_
 exact ⟨[.bool false],by kernel_rfl,fun w' hb hf => ⟨aU (show (false : Bool) = aW c from by first | rfl | (simp [aW,bB,cv,aC, *]; done) | (clear hm hf hb; simp_all [aW,bB,cv,aC]; done) | grind [aW,bB,cv,aC,ci]),hb⟩⟩
 have h8l := eA h8
 have h8ln := aD h8l
 have h8r := f6 h8
 have h8rl := eA h8r
 have h8rln := aD h8rl
 have h8rr := f6 h8r
 have h8rrl := eA h8rr
 have h8rrln := aD h8rrl
 have h8rrr := f6 h8rr
 have h8rrrl := eA h8rrr
 have h8rrrln := aD h8rrrl
 have h8rrrr := f6 h8rrr
 have h8rrrrl := eA h8rrrr
 have h8rrrrln := aD h8rrrrl
 have h8rrrrr := f6 h8rrrr
 have h8rrrrrl := eA h8rrrrr
 have h8rrrrrln := aD h8rrrrrl
 have h8rrrrrr := f6 h8rrrrr
 have h8rrrrrrl := eA h8rrrrrr
 have h8rrrrrrr := f6 h8rrrrrr
 have h8rrrrrrrn := aD h8rrrrrrr
 refine kK <| kQ <| aJ [1,3] [(1,.p 0 0),(3,aI 3)] <| kS <| kQ <| aJ [1,3,55] [(1,.p 0 0),(3,aI 3),(55,aB (c.state == 7))] ?_
 refine bo ⟨[(1,.p 0 0),(3,aI (if (c.state == 7) = true then 4 else 3))],[⟨44,a7 c (cS Z c Y)⟩],[],[cH Z c Y]⟩ ?_ ?_
 refine kC (c.state == 7) (fun h9 => ?_) (fun h9 => ?_)
 have h9p := bC h9
 refine kG <| aJ [1,3] [(1,.p 0 0),(3,aI 4)] ?_
 show Wk _ _; rw [h9]; exact kF 1 0 [1,3]
 have h9p := bA h9
 refine kK ?_
 show Wk _ _; rw [h9]; exact kF 1 0 [1,3]
 refine kS <| kQ <| dh 3 [1,57,58] [(1,.p 0 0),(57,aI c.timer),(58,aI (if (c.state == 7) = true then 4 else 3))] 67 [iI c.timer,iI 0,iI (if (c.state == 7) = true then 4 else 3)] (some 59) rfl (bM fun ww hf => f0 c.timer 0 (if (c.state == 7) = true then 4 else 3) ww ) ?_
 intro _
 refine aJ [1,60] [(1,.p 0 0),(60,aB (!(ci c.timer 0 (if (c.state == 7) = true then 4 else 3))))] <| kC (!(ci c.timer 0 (if (c.state == 7) = true then 4 else 3))) (fun h10 => ?_) (fun h10 => ?_)
 have h10n := bg h10
 have h10np := h10n; simp only [beq_iff_eq,bne_iff_ne,beq_eq_false_iff_ne,bne_eq_false_iff_eq,ne_eq,bv] at h10np
 refine kQ <| aJ [2] [(2,aB false)] <| kR ?_
 exact ⟨[.bool false],by kernel_rfl,fun w' hb hf => ⟨aU (show (false : Bool) = aW c from by first | rfl | (simp [aW,bB,cv,aC, *]; done) | (clear hm hf hb; simp_all [aW,bB,cv,aC]; done) | grind [aW,bB,cv,aC,ci]),hb⟩⟩
 have h10n := aD h10
 have h10np := h10n; simp only [beq_iff_eq,bne_iff_ne,beq_eq_false_iff_ne,bne_eq_false_iff_eq,ne_eq,bv] at h10np
 refine kK <| kS <| kQ <| aJ [1,63] [(1,.p 0 0),(63,aB (c.state == 8))] ?_
 refine kC (c.state == 8) (fun h11 => ?_) (fun h11 => ?_)
 have h11p := bC h11
 refine kQ <| aJ [2] [(2,aB true)] <| kR ?_
 exact ⟨[.bool true],by kernel_rfl,fun w' hb hf => ⟨aU (show (true : Bool) = aW c from by first | rfl | (simp [aW,bB,cv,aC, *]; done) | (clear hm hf hb; simp_all [aW,bB,cv,aC]; done) | grind [aW,bB,cv,aC,ci]),hb⟩⟩
 have h11p := bA h11
 refine kK <| kS <| bo ⟨[(1,.p 0 0),(4,aB ((c.state == 3) || (c.state == 7)))],[⟨44,a7 c (cS Z c Y)⟩],[],[cH Z c Y]⟩ ?_ ?_
 refine kG <| cR 4 [1,67] [(1,.p 0 0),(67,aB (c.state == 3))] <| kP 67 (c.state == 3) (fun h12 => ?_) (fun h12 => ?_)
 have h12p := bC h12
 refine aJ [1,4] [(1,.p 0 0),(4,aB true)] ?_
 show Wk _ _
 try rw [h12]
 exact kF 1 0 [1,4]
 have h12p := bA h12
 refine aJ [1,4] [(1,.p 0 0),(4,aB (c.state == 7))] ?_
 show Wk _ _
 try rw [h12]
 exact kF 1 0 [1,4]
 refine kS <| bo ⟨[(1,.p 0 0),(4,aB ((c.state == 3) || (c.state == 7))),(5,aB ((c.state == 4) || (decide (c.state ≥ 5))))],[⟨44,a7 c (cS Z c Y)⟩],[],[cH Z c Y]⟩ ?_ ?_
 refine kG <| cR 4 [1,4,75] [(1,.p 0 0),(4,aB ((c.state == 3) || (c.state == 7))),(75,aB (c.state == 4))] <| kP 75 (c.state == 4) (fun h13 => ?_) (fun h13 => ?_)
 have h13p := bC h13
 refine aJ [1,4,5] [(1,.p 0 0),(4,aB ((c.state == 3) || (c.state == 7))),(5,aB true)] ?_
 show Wk _ _
 try rw [h13]
 exact kF 1 0 [1,4,5]
 have h13p := bA h13
 refine aJ [1,4,5] [(1,.p 0 0),(4,aB ((c.state == 3) || (c.state == 7))),(5,aB (decide (c.state ≥ 5)))] ?_
 show Wk _ _
 try rw [h13]
 exact kF 1 0 [1,4,5]
 refine kS <| bo ⟨[(2,aB ((c.s.fin == (decide (c.state ≠ 1 ∧ c.state ≠ 4))) && ((c.s.done == ((c.state == 3) || (c.state == 7))) && (c.r.done == ((c.state == 4) || (decide (c.state ≥ 5)))))))],[⟨44,a7 c (cS Z c Y)⟩],[],[cH Z c Y]⟩ ?_ ?_
 refine cm [] (by kernel_rfl) (fun ρ σ => ?_)
 refine ca [0,1,2,3,4] [84,82,1,4,5] 17 [(84,aI c.state),(82,aB c.s.fin),(1,.p 0 0),(4,aB ((c.state == 3) || (c.state == 7))),(5,aB ((c.state == 4) || (decide (c.state ≥ 5))))] <| kA [5] <| dr 5 68 [iI c.state] (some 85) rfl (aA fun ww hf => l19Fin_c c.state ww ) ?_
 intro _
 refine ca [6,7] [87,1,4,5] 14 [(87,aB (c.s.fin == (decide (c.state ≠ 1 ∧ c.state ≠ 4)))),(1,.p 0 0),(4,aB ((c.state == 3) || (c.state == 7))),(5,aB ((c.state == 4) || (decide (c.state ≥ 5))))] <| kY 87 (c.s.fin == (decide (c.state ≠ 1 ∧ c.state ≠ 4))) (fun h14 => ?_) (fun h14 => ?_)
 have h14p := bC h14
 refine ca [8,9,10,11,12,13,14] [94,1,5] 7 [(94,aB (c.s.done == ((c.state == 3) || (c.state == 7)))),(1,.p 0 0),(5,aB ((c.state == 4) || (decide (c.state ≥ 5))))] <| kY 94 (c.s.done == ((c.state == 3) || (c.state == 7))) (fun h15 => ?_) (fun h15 => ?_)
 have h15p := bC h15
 refine ca [15,16,17,18,19,20,21] [2] 0 [(2,aB (c.r.done == ((c.state == 4) || (decide (c.state ≥ 5)))))] <| kZ ?_
 show Wk _ _
 try rw [h14]
 try rw [h15]
 exact kF 1 0 [2]
 have h15p := bA h15
 refine ca [15,16,17,18,19,20,21] [2] 0 [(2,aB false)] <| kZ ?_
 show Wk _ _
 try rw [h14]
 try rw [h15]
 exact kF 1 0 [2]
 have h14p := bA h14
 refine ca [8,9,10,11,12,13,14,15,16,17,18,19,20,21] [2] 0 [(2,aB false)] <| kZ ?_
 show Wk _ _
 try rw [h14]
 exact kF 1 0 [2]
 refine kR ?_
 exact ⟨[.bool ((c.s.fin == (decide (c.state ≠ 1 ∧ c.state ≠ 4))) && ((c.s.done == ((c.state == 3) || (c.state == 7))) && (c.r.done == ((c.state == 4) || (decide (c.state ≥ 5))))))],by kernel_rfl,fun w' hb hf => ⟨aU (show ((c.s.fin == (decide (c.state ≠ 1 ∧ c.state ≠ 4))) && ((c.s.done == ((c.state == 3) || (c.state == 7))) && (c.r.done == ((c.state == 4) || (decide (c.state ≥ 5))))) : Bool) = aW c from by first | rfl | (simp [aW,bB,cv,aC, *]; done) | (clear hm hf hb; simp_all [aW,bB,cv,aC]; done) | grind [aW,bB,cv,aC,ci]),hb⟩⟩
theorem ysWaits_c (c : Con) (rV : Value) (w : World) (hZ : Sl w rV 2 (c.r.held.map pC)) (hm : ∀ p ∈ c.r.held, p.text.size ≤ 1048576) (hsz : c.r.data.size ≤ 4611686018427387904) : Calls Tryz.prog 164 #[.agg (a7 c rV).toArray] w fun e w' => e = .returned (.bool (waits c)) ∧ Below w.heap.size w w' := by
 obtain ⟨Z,Y,hY⟩ := hZ.form
 rw [List.length_map] at hY; subst hY
 have hJ := hZ.len; rw [List.length_map] at hJ
 have hqcrh := Sl.capLe hZ
 refine bH (args := [.agg (a7 c (cS Z c Y)).toArray]) (fn := Tryz.f164) [cH Z c Y] Tryz.func164 rfl Tryz.ntmps164 rfl (by simp only [List.mem_cons,List.not_mem_nil,or_false,forall_eq_or_imp,forall_eq]; exact ⟨rfl,hZ⟩) ?_
 refine kQ <| c8 [1] ⟨[(1,.p 0 0)],[⟨44,a7 c (cS Z c Y)⟩],[],[cH Z c Y]⟩ <| kS <| bo ⟨[(2,aB ((aW c) && ((c.state == 7) || ((c.state != 8) && (i3 c)))))],[⟨44,a7 c (cS Z c Y)⟩],[],[cH Z c Y]⟩ ?_ ?_
 refine kG <| dh 1 [1,3] [(1,.p 0 0),(3,.v (.agg (a7 c (cS Z c Y)).toArray))] 25 [.agg (a7 c (cS Z c Y)).toArray] (some 4) rfl (aA fun ww hf => es c (cS Z c Y) ww (hf _ m0) (by assumption) (by omega)) ?_
 intro _
 refine cR 1 [1,5] [(1,.p 0 0),(5,aB (aW c))] <| kP 5 (aW c) (fun h1 => ?_) (fun h1 => ?_)
 refine cR 4 [1,5,9] [(1,.p 0 0),(5,aB true),(9,aB (c.state == 7))] <| kP 9 (c.state == 7) (fun h2 => ?_) (fun h2 => ?_)
 have h2p := bC h2
 refine aJ [2] [(2,aB true)] ?_
 show Wk _ _
 try rw [h1]
 try rw [h2]
 exact kF 1 0 [2]
 have h2p := bA h2
 refine cR 4 [1,5,9,13] [(1,.p 0 0),(5,aB true),(9,aB false),(13,aB (c.state != 8))] <| kP 13 (c.state != 8) (fun h3 => ?_) (fun h3 => ?_)
 have h3p := neT h3
 refine dh 1 [5,9,13,14] [(5,aB true),(9,aB false),(13,aB true),(14,.v (.agg (a7 c (cS Z c Y)).toArray))] 167 [.agg (a7 c (cS Z c Y)).toArray] (some 15) rfl (aA fun ww hf => ysUnsent_c c (cS Z c Y) ww ) ?_
 intro _
 refine aJ [2] [(2,aB (i3 c))] ?_
 show Wk _ _
 try rw [h1]
 try rw [h2]
 try rw [h3]
 exact kF 1 0 [2]
 have h3p := neF h3
 refine aJ [2] [(2,aB false)] ?_
 show Wk _ _
 try rw [h1]
 try rw [h2]
 try rw [h3]
 exact kF 1 0 [2]
 refine aJ [2] [(2,aB false)] ?_
 show Wk _ _
 try rw [h1]
 exact kF 1 0 [2]
 refine kR ?_
 exact ⟨[.bool ((aW c) && ((c.state == 7) || ((c.state != 8) && (i3 c))))],by kernel_rfl,fun w' hb hf => ⟨aU (show ((aW c) && ((c.state == 7) || ((c.state != 8) && (i3 c))) : Bool) = waits c from by first | rfl | (simp [waits, *]; done) | grind [waits]),hb⟩⟩
theorem iY (c : Con) (rV : Value) (w : World) (hZ : Sl w rV 2 (c.r.held.map pC)) (hm : ∀ p ∈ c.r.held, p.text.size ≤ 1048576) (hsz : c.r.data.size ≤ 4611686018427387904) : Calls Tryz.prog 24 #[.agg (a7 c rV).toArray] w fun e w' => e = .returned (.bool (aW c)) ∧ Below w.heap.size w w' := by
 obtain ⟨Z,Y,hY⟩ := hZ.form
 rw [List.length_map] at hY; subst hY
 have hJ := hZ.len; rw [List.length_map] at hJ
 have hqcrh := Sl.capLe hZ
 refine bH (args := [.agg (a7 c (cS Z c Y)).toArray]) (fn := Tryz.f24) [cH Z c Y] Tryz.func24 rfl Tryz.ntmps24 rfl (by simp only [List.mem_cons,List.not_mem_nil,or_false,forall_eq_or_imp,forall_eq]; exact ⟨rfl,hZ⟩) ?_
 refine kQ <| c8 [1] ⟨[(1,.p 0 0)],[⟨44,a7 c (cS Z c Y)⟩],[],[cH Z c Y]⟩ <| kS <| kS <| bo ⟨[(1,.p 0 0),(34,aB ((!(dw c.t)) || ((!(aa c.s)) || ((!(rO c.r)) || ((!(bl c.o)) || (!(ci c.state 1 8)))))))],[⟨44,a7 c (cS Z c Y)⟩],[],[cH Z c Y]⟩ ?_ ?_
 refine kG <| dh 2 [1,8] [(1,.p 0 0),(8,.v (.agg (dI c.t).toArray))] 58 [.agg (dI c.t).toArray] (some 9) rfl (aA fun ww hf => iTupleOk_c c.t.ip c.t.port c.t.my ww ) ?_
 intro _
 refine cR 2 [1,11] [(1,.p 0 0),(11,aB (!(dw c.t)))] <| kP 11 (!(dw c.t)) (fun h1 => ?_) (fun h1 => ?_)
 have h1n := bg h1
 refine aJ [1,34] [(1,.p 0 0),(34,aB true)] ?_
 show Wk _ _
 try rw [h1]
 exact kF 1 0 [1,34]
 have h1n := aD h1
 refine dh 2 [1,11,13] [(1,.p 0 0),(11,aB false),(13,.v (.agg (ai c.s).toArray))] 59 [.agg (ai c.s).toArray] (some 14) rfl (aA fun ww hf => fA c.s.una c.s.data c.s.sent c.s.fin c.s.finSent c.s.done ww ) ?_
 intro _
 refine cR 3 [1,17] [(1,.p 0 0),(17,aB (!(aa c.s)))] <| kP 17 (!(aa c.s)) (fun h2 => ?_) (fun h2 => ?_)
 have h2n := bg h2
 refine aJ [1,34] [(1,.p 0 0),(34,aB true)] ?_
 show Wk _ _
 try rw [h1]
 try rw [h2]
 exact kF 1 0 [1,34]
 have h2n := aD h2
 refine dh 2 [1,17,19] [(1,.p 0 0),(17,aB false),(19,.v (.agg (ah c.r (cS Z c Y)).toArray))] 60 [.agg (ah c.r (cS Z c Y)).toArray] (some 20) rfl (aA fun ww hf => yiReceiverOk_c c.r (cS Z c Y) ww (hf _ m0) (by assumption) (by omega)) ?_
 intro _
 refine cR 3 [1,23] [(1,.p 0 0),(23,aB (!(rO c.r)))] <| kP 23 (!(rO c.r)) (fun h3 => ?_) (fun h3 => ?_)
 have h3n := bg h3
 refine aJ [1,34] [(1,.p 0 0),(34,aB true)] ?_
 show Wk _ _
 try rw [h1]
 try rw [h2]
 try rw [h3]
 exact kF 1 0 [1,34]
 have h3n := aD h3
 refine dh 2 [1,23,25] [(1,.p 0 0),(23,aB false),(25,.v (.agg (df c.o).toArray))] 61 [.agg (df c.o).toArray] (some 26) rfl (aA fun ww hf => iOptionsOk_c c.o.mss c.o.scale c.o.sack c.o.stamp c.o.val c.o.echo ww ) ?_
 intro _
 refine cR 3 [1,29] [(1,.p 0 0),(29,aB (!(bl c.o)))] <| kP 29 (!(bl c.o)) (fun h4 => ?_) (fun h4 => ?_)
 have h4n := bg h4
 refine aJ [1,34] [(1,.p 0 0),(34,aB true)] ?_
 show Wk _ _
 try rw [h1]
 try rw [h2]
 try rw [h3]
 try rw [h4]
 exact kF 1 0 [1,34]
 have h4n := aD h4
 refine dh 2 [1,29,31] [(1,.p 0 0),(29,aB false),(31,aI c.state)] 62 [iI c.state,iI 1,iI 8] (some 32) rfl (bM fun ww hf => dM c.state 1 8 ww ) ?_
 intro _
 refine aJ [1,34] [(1,.p 0 0),(34,aB (!(ci c.state 1 8)))] ?_
 show Wk _ _
 try rw [h1]
 try rw [h2]
 try rw [h3]
 try rw [h4]
 exact kF 1 0 [1,34]
 refine kC ((!(dw c.t)) || ((!(aa c.s)) || ((!(rO c.r)) || ((!(bl c.o)) || (!(ci c.state 1 8)))))) (fun h5 => ?_) (fun h5 => ?_)
 refine kQ <| aJ [2] [(2,aB false)] <| kR ?_
 exact ⟨[.bool false],by kernel_rfl,fun w' hb hf => ⟨aU (show (false : Bool) = aW c from by first | rfl | (simp [aW,bB,cv,aC, *]; done) | (clear hm hf hb; simp_all [aW,bB,cv,aC]; done) | grind [aW,bB,cv,aC,ci]),hb⟩⟩
 have h5l := eA h5
 have h5ln := aD h5l
 have h5r := f6 h5
 have h5rl := eA h5r
 have h5rln := aD h5rl
 have h5rr := f6 h5r
 have h5rrl := eA h5rr
 have h5rrln := aD h5rrl
 have h5rrr := f6 h5rr
 have h5rrrl := eA h5rrr
 have h5rrrln := aD h5rrrl
 have h5rrrr := f6 h5rrr
 have h5rrrrn := aD h5rrrr
 refine kK <| kQ <| aJ [1,3] [(1,.p 0 0),(3,aI 3)] <| kS <| kQ <| aJ [1,3,37] [(1,.p 0 0),(3,aI 3),(37,aB (c.state == 7))] ?_
 refine bo ⟨[(1,.p 0 0),(3,aI (if (c.state == 7) = true then 4 else 3))],[⟨44,a7 c (cS Z c Y)⟩],[],[cH Z c Y]⟩ ?_ ?_
 refine kC (c.state == 7) (fun h6 => ?_) (fun h6 => ?_)
 have h6p := bC h6
 refine kG <| aJ [1,3] [(1,.p 0 0),(3,aI 4)] ?_
 show Wk _ _; rw [h6]; exact kF 1 0 [1,3]
 have h6p := bA h6
 refine kK ?_
 show Wk _ _; rw [h6]; exact kF 1 0 [1,3]
 refine kS <| kS <| bo ⟨[(1,.p 0 0),(62,aB ((!(ci c.most 0 1073725440)) || ((!(ci c.window 0 c.most)) || ((!(ci c.timer 0 (if (c.state == 7) = true then 4 else 3))) || (!(ci c.tries 0 3))))))],[⟨44,a7 c (cS Z c Y)⟩],[],[cH Z c Y]⟩ ?_ ?_
 refine kG <| dh 2 [1,3,39] [(1,.p 0 0),(3,aI (if (c.state == 7) = true then 4 else 3)),(39,aI c.most)] 62 [iI c.most,iI 0,iI 1073725440] (some 40) rfl (bM fun ww hf => dM c.most 0 1073725440 ww ) ?_
 intro _
 refine cR 2 [1,3,42] [(1,.p 0 0),(3,aI (if (c.state == 7) = true then 4 else 3)),(42,aB (!(ci c.most 0 1073725440)))] <| kP 42 (!(ci c.most 0 1073725440)) (fun h7 => ?_) (fun h7 => ?_)
 have h7n := bg h7
 refine aJ [1,62] [(1,.p 0 0),(62,aB true)] ?_
 show Wk _ _
 try rw [h7]
 exact kF 1 0 [1,62]
 have h7n := aD h7
 refine dh 4 [1,3,42,44,46] [(1,.p 0 0),(3,aI (if (c.state == 7) = true then 4 else 3)),(42,aB false),(44,aI c.window),(46,aI c.most)] 62 [iI c.window,iI 0,iI c.most] (some 47) rfl (bM fun ww hf => dM c.window 0 c.most ww ) ?_
 intro _
 refine cR 3 [1,3,50] [(1,.p 0 0),(3,aI (if (c.state == 7) = true then 4 else 3)),(50,aB (!(ci c.window 0 c.most)))] <| kP 50 (!(ci c.window 0 c.most)) (fun h8 => ?_) (fun h8 => ?_)
 have h8n := bg h8
 refine aJ [1,62] [(1,.p 0 0),(62,aB true)] ?_
 show Wk _ _
 try rw [h7]
 try rw [h8]
 exact kF 1 0 [1,62]
 have h8n := aD h8
 refine dh 3 [1,50,52,53] [(1,.p 0 0),(50,aB false),(52,aI c.timer),(53,aI (if (c.state == 7) = true then 4 else 3))] 62 [iI c.timer,iI 0,iI (if (c.state == 7) = true then 4 else 3)] (some 54) rfl (bM fun ww hf => dM c.timer 0 (if (c.state == 7) = true then 4 else 3) ww ) ?_
 intro _
 refine cR 3 [1,57] [(1,.p 0 0),(57,aB (!(ci c.timer 0 (if (c.state == 7) = true then 4 else 3))))] <| kP 57 (!(ci c.timer 0 (if (c.state == 7) = true then 4 else 3))) (fun h9 => ?_) (fun h9 => ?_)
 have h9n := bg h9
 have h9np := h9n; simp only [beq_iff_eq,bne_iff_ne,beq_eq_false_iff_ne,bne_eq_false_iff_eq,ne_eq,bv] at h9np
 refine aJ [1,62] [(1,.p 0 0),(62,aB true)] ?_
 show Wk _ _
 try rw [h7]
 try rw [h8]
 try rw [h9]
 exact kF 1 0 [1,62]
 have h9n := aD h9
 have h9np := h9n; simp only [beq_iff_eq,bne_iff_ne,beq_eq_false_iff_ne,bne_eq_false_iff_eq,ne_eq,bv] at h9np
 refine dh 2 [1,57,59] [(1,.p 0 0),(57,aB false),(59,aI c.tries)] 62 [iI c.tries,iI 0,iI 3] (some 60) rfl (bM fun ww hf => dM c.tries 0 3 ww ) ?_
 intro _
 refine aJ [1,62] [(1,.p 0 0),(62,aB (!(ci c.tries 0 3)))] ?_
 show Wk _ _
 try rw [h7]
 try rw [h8]
 try rw [h9]
 exact kF 1 0 [1,62]
 refine kC ((!(ci c.most 0 1073725440)) || ((!(ci c.window 0 c.most)) || ((!(ci c.timer 0 (if (c.state == 7) = true then 4 else 3))) || (!(ci c.tries 0 3))))) (fun h10 => ?_) (fun h10 => ?_)
 refine kQ <| aJ [2] [(2,aB false)] <| kR ?_
 exact ⟨[.bool false],by kernel_rfl,fun w' hb hf => ⟨aU (show (false : Bool) = aW c from by first | rfl | (simp [aW,bB,cv,aC, *]; done) | (clear hm hf hb; simp_all [aW,bB,cv,aC]; done) | grind [aW,bB,cv,aC,ci]),hb⟩⟩
 have h10l := eA h10
 have h10ln := aD h10l
 have h10r := f6 h10
 have h10rl := eA h10r
 have h10rln := aD h10rl
 have h10rr := f6 h10r
 have h10rrl := eA h10rr
 have h10rrln := aD h10rrl
 have h10rrlnp := h10rrln; simp only [beq_iff_eq,bne_iff_ne,beq_eq_false_iff_ne,bne_eq_false_iff_eq,ne_eq,bv] at h10rrlnp
 have h10rrr := f6 h10rr
 have h10rrrn := aD h10rrr
 refine kK <| kS <| cm [] (by kernel_rfl) (fun ρ σ => ?_)
 refine ca [0,1,2,3,4,5,6,7,8,9,10,11] [6,5,4,1] 0 [(6,aB c.r.done),(5,aB c.s.done),(4,aB c.s.fin),(1,.p 0 0)] <| kZ <| kS <| kQ <| aJ [4,5,6,73] [(4,aB c.s.fin),(5,aB c.s.done),(6,aB c.r.done),(73,aI c.state)] ?_
 refine aZ <| kQ <| aJ [4,5,6,73,74] [(4,aB c.s.fin),(5,aB c.s.done),(6,aB c.r.done),(73,aI c.state),(74,aB (c.state == 1))] <| kC (c.state == 1) (fun h11 => ?_) (fun h11 => ?_)
 have h11p := bC h11
 refine kS <| bo ⟨[(2,aB ((!c.s.fin) && ((!c.s.done) && (!c.r.done))))],[⟨44,a7 c (cS Z c Y)⟩],[],[cH Z c Y]⟩ ?_ ?_
 refine kG <| cR 3 [5,6,78] [(5,aB c.s.done),(6,aB c.r.done),(78,aB (!c.s.fin))] <| kP 78 (!c.s.fin) (fun h12 => ?_) (fun h12 => ?_)
 have h12n := bg h12
 refine cR 4 [6,82] [(6,aB c.r.done),(82,aB (!c.s.done))] <| kP 82 (!c.s.done) (fun h13 => ?_) (fun h13 => ?_)
 have h13n := bg h13
 refine aJ [2] [(2,aB (!c.r.done))] ?_
 show Wk _ _
 try rw [h12]
 try rw [h13]
 exact kF 1 0 [2]
 have h13n := aD h13
 refine aJ [2] [(2,aB false)] ?_
 show Wk _ _
 try rw [h12]
 try rw [h13]
 exact kF 1 0 [2]
 have h12n := aD h12
 refine aJ [2] [(2,aB false)] ?_
 show Wk _ _
 try rw [h12]
 exact kF 1 0 [2]
 refine kR ?_
 exact ⟨[.bool ((!c.s.fin) && ((!c.s.done) && (!c.r.done)))],by kernel_rfl,fun w' hb hf => ⟨aU (show ((!c.s.fin) && ((!c.s.done) && (!c.r.done)) : Bool) = aW c from by first | rfl | (simp [aW,bB,cv,aC, *]; done) | (clear hm hf hb; simp_all [aW,bB,cv,aC]; done) | grind [aW,bB,cv,aC,ci]),hb⟩⟩
 have h11p := bA h11
 refine kQ <| aJ [4,5,6,73,86] [(4,aB c.s.fin),(5,aB c.s.done),(6,aB c.r.done),(73,aI c.state),(86,aB (c.state == 2))] <| kC (c.state == 2) (fun h14 => ?_) (fun h14 => ?_)
 have h14p := bC h14
 refine kS <| bo ⟨[(2,aB (c.s.fin && ((!c.s.done) && (!c.r.done))))],[⟨44,a7 c (cS Z c Y)⟩],[],[cH Z c Y]⟩ ?_ ?_
 refine kG <| cR 2 [5,6,89] [(5,aB c.s.done),(6,aB c.r.done),(89,aB c.s.fin)] <| kP 89 (c.s.fin) (fun h15 => ?_) (fun h15 => ?_)
 refine cR 4 [6,93] [(6,aB c.r.done),(93,aB (!c.s.done))] <| kP 93 (!c.s.done) (fun h16 => ?_) (fun h16 => ?_)
 have h16n := bg h16
 refine aJ [2] [(2,aB (!c.r.done))] ?_
 show Wk _ _
 try rw [h15]
 try rw [h16]
 exact kF 1 0 [2]
 have h16n := aD h16
 refine aJ [2] [(2,aB false)] ?_
 show Wk _ _
 try rw [h15]
 try rw [h16]
 exact kF 1 0 [2]
 refine aJ [2] [(2,aB false)] ?_
 show Wk _ _
 try rw [h15]
 exact kF 1 0 [2]
 refine kR ?_
 exact ⟨[.bool (c.s.fin && ((!c.s.done) && (!c.r.done)))],by kernel_rfl,fun w' hb hf => ⟨aU (show (c.s.fin && ((!c.s.done) && (!c.r.done)) : Bool) = aW c from by first | rfl | (simp [aW,bB,cv,aC, *]; done) | (clear hm hf hb; simp_all [aW,bB,cv,aC]; done) | grind [aW,bB,cv,aC,ci]),hb⟩⟩
 have h14p := bA h14
 refine kQ <| aJ [4,5,6,73,97] [(4,aB c.s.fin),(5,aB c.s.done),(6,aB c.r.done),(73,aI c.state),(97,aB (c.state == 3))] <| kC (c.state == 3) (fun h17 => ?_) (fun h17 => ?_)
 have h17p := bC h17
 refine kS <| bo ⟨[(2,aB (c.s.fin && (c.s.done && (!c.r.done))))],[⟨44,a7 c (cS Z c Y)⟩],[],[cH Z c Y]⟩ ?_ ?_
 refine kG <| cR 2 [5,6,100] [(5,aB c.s.done),(6,aB c.r.done),(100,aB c.s.fin)] <| kP 100 (c.s.fin) (fun h18 => ?_) (fun h18 => ?_)
 refine cR 3 [6,103] [(6,aB c.r.done),(103,aB c.s.done)] <| kP 103 (c.s.done) (fun h19 => ?_) (fun h19 => ?_)
 refine aJ [2] [(2,aB (!c.r.done))] ?_
 show Wk _ _
 try rw [h18]
 try rw [h19]
 exact kF 1 0 [2]
 refine aJ [2] [(2,aB false)] ?_
 show Wk _ _
 try rw [h18]
 try rw [h19]
 exact kF 1 0 [2]
 refine aJ [2] [(2,aB false)] ?_
 show Wk _ _
 try rw [h18]
 exact kF 1 0 [2]
 refine kR ?_
 exact ⟨[.bool (c.s.fin && (c.s.done && (!c.r.done)))],by kernel_rfl,fun w' hb hf => ⟨aU (show (c.s.fin && (c.s.done && (!c.r.done)) : Bool) = aW c from by first | rfl | (simp [aW,bB,cv,aC, *]; done) | (clear hm hf hb; simp_all [aW,bB,cv,aC]; done) | grind [aW,bB,cv,aC,ci]),hb⟩⟩
 have h17p := bA h17
 refine kQ <| aJ [4,5,6,73,107] [(4,aB c.s.fin),(5,aB c.s.done),(6,aB c.r.done),(73,aI c.state),(107,aB (c.state == 4))] <| kC (c.state == 4) (fun h20 => ?_) (fun h20 => ?_)
 have h20p := bC h20
 refine kS <| bo ⟨[(2,aB ((!c.s.fin) && ((!c.s.done) && c.r.done)))],[⟨44,a7 c (cS Z c Y)⟩],[],[cH Z c Y]⟩ ?_ ?_
 refine kG <| cR 3 [5,6,111] [(5,aB c.s.done),(6,aB c.r.done),(111,aB (!c.s.fin))] <| kP 111 (!c.s.fin) (fun h21 => ?_) (fun h21 => ?_)
 have h21n := bg h21
 refine cR 4 [6,115] [(6,aB c.r.done),(115,aB (!c.s.done))] <| kP 115 (!c.s.done) (fun h22 => ?_) (fun h22 => ?_)
 have h22n := bg h22
 refine aJ [2] [(2,aB c.r.done)] ?_
 show Wk _ _
 try rw [h21]
 try rw [h22]
 exact kF 1 0 [2]
 have h22n := aD h22
 refine aJ [2] [(2,aB false)] ?_
 show Wk _ _
 try rw [h21]
 try rw [h22]
 exact kF 1 0 [2]
 have h21n := aD h21
 refine aJ [2] [(2,aB false)] ?_
 show Wk _ _
 try rw [h21]
 exact kF 1 0 [2]
 refine kR ?_
 exact ⟨[.bool ((!c.s.fin) && ((!c.s.done) && c.r.done))],by kernel_rfl,fun w' hb hf => ⟨aU (show ((!c.s.fin) && ((!c.s.done) && c.r.done) : Bool) = aW c from by first | rfl | (simp [aW,bB,cv,aC, *]; done) | (clear hm hf hb; simp_all [aW,bB,cv,aC]; done) | grind [aW,bB,cv,aC,ci]),hb⟩⟩
 have h20p := bA h20
 refine kS <| kQ <| aJ [4,5,6,73,118] [(4,aB c.s.fin),(5,aB c.s.done),(6,aB c.r.done),(73,aI c.state),(118,aB (c.state == 5))] <| bo ⟨[(4,aB c.s.fin),(5,aB c.s.done),(6,aB c.r.done),(73,aI c.state),(118,aB (if (c.state == 5) = true then c.state == 5 else c.state == 6))],[⟨44,a7 c (cS Z c Y)⟩],[],[cH Z c Y]⟩ ?_ ?_
 refine kC (c.state == 5) (fun h23 => ?_) (fun h23 => ?_)
 have h23p := bC h23
 refine kK ?_
 show Wk _ _; rw [h23]; exact kF 1 0 [4,5,6,73,118]
 have h23p := bA h23
 refine kG <| aJ [4,5,6,73,118] [(4,aB c.s.fin),(5,aB c.s.done),(6,aB c.r.done),(73,aI c.state),(118,aB (c.state == 6))] ?_
 show Wk _ _; rw [h23]; exact kF 1 0 [4,5,6,73,118]
 refine kC (if (c.state == 5) = true then c.state == 5 else c.state == 6) (fun h24 => ?_) (fun h24 => ?_)
 have h24p := h24; simp only [beq_iff_eq,bne_iff_ne,beq_eq_false_iff_ne,bne_eq_false_iff_eq,ne_eq,bv] at h24p
 refine kS <| bo ⟨[(2,aB (c.s.fin && ((!c.s.done) && c.r.done)))],[⟨44,a7 c (cS Z c Y)⟩],[],[cH Z c Y]⟩ ?_ ?_
 refine kG <| cR 2 [5,6,122] [(5,aB c.s.done),(6,aB c.r.done),(122,aB c.s.fin)] <| kP 122 (c.s.fin) (fun h25 => ?_) (fun h25 => ?_)
 refine cR 4 [6,126] [(6,aB c.r.done),(126,aB (!c.s.done))] <| kP 126 (!c.s.done) (fun h26 => ?_) (fun h26 => ?_)
 have h26n := bg h26
 refine aJ [2] [(2,aB c.r.done)] ?_
 show Wk _ _
 try rw [h25]
 try rw [h26]
 exact kF 1 0 [2]
 have h26n := aD h26
 refine aJ [2] [(2,aB false)] ?_
 show Wk _ _
 try rw [h25]
 try rw [h26]
 exact kF 1 0 [2]
 refine aJ [2] [(2,aB false)] ?_
 show Wk _ _
 try rw [h25]
 exact kF 1 0 [2]
 refine kR ?_
 exact ⟨[.bool (c.s.fin && ((!c.s.done) && c.r.done))],by kernel_rfl,fun w' hb hf => ⟨aU (show (c.s.fin && ((!c.s.done) && c.r.done) : Bool) = aW c from by first | rfl | (simp [aW,bB,cv,aC, *]; done) | (clear hm hf hb; simp_all [aW,bB,cv,aC]; done) | grind [aW,bB,cv,aC,ci]),hb⟩⟩
 have h24p := h24; simp only [beq_iff_eq,bne_iff_ne,beq_eq_false_iff_ne,bne_eq_false_iff_eq,ne_eq,bv] at h24p
 refine kQ <| aJ [4,5,6,129] [(4,aB c.s.fin),(5,aB c.s.done),(6,aB c.r.done),(129,aB (c.state == 7))] <| kC (c.state == 7) (fun h27 => ?_) (fun h27 => ?_)
 have h27p := bC h27
 refine kS <| bo ⟨[(2,aB (c.s.fin && (c.s.done && c.r.done)))],[⟨44,a7 c (cS Z c Y)⟩],[],[cH Z c Y]⟩ ?_ ?_
 refine kG <| cR 2 [5,6,132] [(5,aB c.s.done),(6,aB c.r.done),(132,aB c.s.fin)] <| kP 132 (c.s.fin) (fun h28 => ?_) (fun h28 => ?_)
 refine cR 3 [6,135] [(6,aB c.r.done),(135,aB c.s.done)] <| kP 135 (c.s.done) (fun h29 => ?_) (fun h29 => ?_)
 refine aJ [2] [(2,aB c.r.done)] ?_
 show Wk _ _
 try rw [h28]
 try rw [h29]
 exact kF 1 0 [2]
 refine aJ [2] [(2,aB false)] ?_
 show Wk _ _
 try rw [h28]
 try rw [h29]
 exact kF 1 0 [2]
 refine aJ [2] [(2,aB false)] ?_
 show Wk _ _
 try rw [h28]
 exact kF 1 0 [2]
 refine kR ?_
 exact ⟨[.bool (c.s.fin && (c.s.done && c.r.done))],by kernel_rfl,fun w' hb hf => ⟨aU (show (c.s.fin && (c.s.done && c.r.done) : Bool) = aW c from by first | rfl | (simp [aW,bB,cv,aC, *]; done) | (clear hm hf hb; simp_all [aW,bB,cv,aC]; done) | grind [aW,bB,cv,aC,ci]),hb⟩⟩
 have h27p := bA h27
 refine kK <| kQ <| aJ [2] [(2,aB true)] <| kR ?_
 exact ⟨[.bool true],by kernel_rfl,fun w' hb hf => ⟨aU (show (true : Bool) = aW c from by first | rfl | (simp [aW,bB,cv,aC, *]; done) | (clear hm hf hb; simp_all [aW,bB,cv,aC]; done) | grind [aW,bB,cv,aC,ci]),hb⟩⟩
theorem ysSegmentOk_c (g : Seg) (w : World) (hsz : g.body.size ≤ 4611686018427387904) : Calls Tryz.prog 80 #[.agg (aG g).toArray] w fun e w' => e = .returned (.bool (cr g)) ∧ Below w.heap.size w w' := by
 refine bH (args := [.agg (aG g).toArray]) (fn := Tryz.f80) [] Tryz.func80 rfl Tryz.ntmps80 rfl (by simp) ?_
 refine kQ <| c8 [1] ⟨[(1,.p 0 0)],[⟨50,aG g⟩],[],[]⟩ <| kS <| bo ⟨[(2,aB ((ac g.src 16) && ((ac g.dst 16) && ((ac g.window 16) && ((ac g.seq 32) && ((ac g.ack 32) && ((ac g.flags 6) && ((bl g.o) && (decide ((g.body.size : Int) ≤ 1420))))))))))],[⟨50,aG g⟩],[],[]⟩ ?_ ?_
 refine kG <| dh 2 [1,4] [(1,.p 0 0),(4,aI g.src)] 114 [iI g.src,iI 16] (some 5) rfl (bM fun ww hf => ez g.src ww) ?_
 intro _
 refine cR 1 [1,6] [(1,.p 0 0),(6,aB (ac g.src 16))] <| kP 6 (ac g.src 16) (fun h1 => ?_) (fun h1 => ?_)
 refine dh 2 [1,6,8] [(1,.p 0 0),(6,aB true),(8,aI g.dst)] 114 [iI g.dst,iI 16] (some 9) rfl (bM fun ww hf => ez g.dst ww) ?_
 intro _
 refine cR 2 [1,11] [(1,.p 0 0),(11,aB (ac g.dst 16))] <| kP 11 (ac g.dst 16) (fun h2 => ?_) (fun h2 => ?_)
 refine dh 2 [1,11,13] [(1,.p 0 0),(11,aB true),(13,aI g.window)] 114 [iI g.window,iI 16] (some 14) rfl (bM fun ww hf => ez g.window ww) ?_
 intro _
 refine cR 2 [1,16] [(1,.p 0 0),(16,aB (ac g.window 16))] <| kP 16 (ac g.window 16) (fun h3 => ?_) (fun h3 => ?_)
 refine dh 2 [1,16,18] [(1,.p 0 0),(16,aB true),(18,aI g.seq)] 114 [iI g.seq,iI 32] (some 19) rfl (bM fun ww hf => fg g.seq ww) ?_
 intro _
 refine cR 2 [1,21] [(1,.p 0 0),(21,aB (ac g.seq 32))] <| kP 21 (ac g.seq 32) (fun h4 => ?_) (fun h4 => ?_)
 refine dh 2 [1,21,23] [(1,.p 0 0),(21,aB true),(23,aI g.ack)] 114 [iI g.ack,iI 32] (some 24) rfl (bM fun ww hf => fg g.ack ww) ?_
 intro _
 refine cR 2 [1,26] [(1,.p 0 0),(26,aB (ac g.ack 32))] <| kP 26 (ac g.ack 32) (fun h5 => ?_) (fun h5 => ?_)
 refine dh 2 [1,26,28] [(1,.p 0 0),(26,aB true),(28,aI g.flags)] 114 [iI g.flags,iI 6] (some 29) rfl (bM fun ww hf => ii g.flags ww) ?_
 intro _
 refine cR 2 [1,31] [(1,.p 0 0),(31,aB (ac g.flags 6))] <| kP 31 (ac g.flags 6) (fun h6 => ?_) (fun h6 => ?_)
 refine dh 2 [1,31,33] [(1,.p 0 0),(31,aB true),(33,.v (.agg (df g.o).toArray))] 66 [.agg (df g.o).toArray] (some 34) rfl (aA fun ww hf => ie g.o.mss g.o.scale g.o.sack g.o.stamp g.o.val g.o.echo ww ) ?_
 intro _
 refine cR 2 [1,36] [(1,.p 0 0),(36,aB (bl g.o))] <| kP 36 (bl g.o) (fun h7 => ?_) (fun h7 => ?_)
 refine aJ [2] [(2,aB (decide ((g.body.size : Int) ≤ 1420)))] ?_
 show Wk _ _
 try rw [h1]
 try rw [h2]
 try rw [h3]
 try rw [h4]
 try rw [h5]
 try rw [h6]
 try rw [h7]
 exact kF 1 0 [2]
 refine aJ [2] [(2,aB false)] ?_
 show Wk _ _
 try rw [h1]
 try rw [h2]
 try rw [h3]
 try rw [h4]
 try rw [h5]
 try rw [h6]
 try rw [h7]
 exact kF 1 0 [2]
 refine aJ [2] [(2,aB false)] ?_
 show Wk _ _
 try rw [h1]
 try rw [h2]
 try rw [h3]
 try rw [h4]
 try rw [h5]
 try rw [h6]
 exact kF 1 0 [2]
 refine aJ [2] [(2,aB false)] ?_
 show Wk _ _
 try rw [h1]
 try rw [h2]
 try rw [h3]
 try rw [h4]
 try rw [h5]
 exact kF 1 0 [2]
 refine aJ [2] [(2,aB false)] ?_
 show Wk _ _
 try rw [h1]
 try rw [h2]
 try rw [h3]
 try rw [h4]
 exact kF 1 0 [2]
 refine aJ [2] [(2,aB false)] ?_
 show Wk _ _
 try rw [h1]
 try rw [h2]
 try rw [h3]
 exact kF 1 0 [2]
 refine aJ [2] [(2,aB false)] ?_
 show Wk _ _
 try rw [h1]
 try rw [h2]
 exact kF 1 0 [2]
 refine aJ [2] [(2,aB false)] ?_
 show Wk _ _
 try rw [h1]
 exact kF 1 0 [2]
 refine kR ?_
 exact ⟨[.bool ((ac g.src 16) && ((ac g.dst 16) && ((ac g.window 16) && ((ac g.seq 32) && ((ac g.ack 32) && ((ac g.flags 6) && ((bl g.o) && (decide ((g.body.size : Int) ≤ 1420)))))))))],by kernel_rfl,fun w' hb hf => ⟨aU (show ((ac g.src 16) && ((ac g.dst 16) && ((ac g.window 16) && ((ac g.seq 32) && ((ac g.ack 32) && ((ac g.flags 6) && ((bl g.o) && (decide ((g.body.size : Int) ≤ 1420)))))))) : Bool) = cr g from by first | rfl | (simp [cr, *]; done) | (simp [cr, *]; omega) | grind [bv,cr]),hb⟩⟩
theorem fQ (c : Con) (rV : Value) (w : World) (hZ : Sl w rV 2 (c.r.held.map pC)) (hsz : c.r.data.size ≤ 4611686018427387904) : Calls Tryz.prog 35 #[.agg (a7 c rV).toArray] w fun e w' => e = .returned (.agg #[iI c.t.my, iI c.t.port, iI (ay c.s), iI c.r.next, iI 16, iI (wO c.r), iI 0, iI (-1), .bool false, .bool false, iI 0, iI 0, .string (⟨#[]⟩ : ByteArray)]) ∧ Below w.heap.size w w' := by
 obtain ⟨Z,Y,hY⟩ := hZ.form
 rw [List.length_map] at hY; subst hY
 have hJ := hZ.len; rw [List.length_map] at hJ
 have hqcrh := Sl.capLe hZ
 refine bH (args := [.agg (a7 c (cS Z c Y)).toArray]) (fn := Tryz.f35) [cH Z c Y] Tryz.func35 rfl Tryz.ntmps35 rfl (by simp only [List.mem_cons,List.not_mem_nil,or_false,forall_eq_or_imp,forall_eq]; exact ⟨rfl,hZ⟩) ?_
 refine kQ <| c8 [1,2] ⟨[(1,.p 0 0),(2,.p 1 0)],[⟨44,a7 c (cS Z c Y)⟩,⟨50,er⟩],[],[cH Z c Y]⟩ <| kS <| cm [true,false] (by kernel_rfl) (fun ρ σ => ?_)
 refine ca [0,1,2,3,4,5,6,7,9,10,11,12,13] [16,14,10,8,5,2] 5 [(16,.v (.agg (ah c.r (cS Z c Y)).toArray)),(14,aI c.r.next),(10,.v (.agg (ai c.s).toArray)),(8,aI c.t.port),(5,aI c.t.my),(2,.p 1 0)] <| kA [8] <| dr 8 87 [.agg (ai c.s).toArray] (some 11) rfl (aA fun ww hf => sNextOf_c c.s.una c.s.data c.s.sent c.s.fin c.s.finSent c.s.done ww ) ?_
 intro _
 refine kA [14] <| dr 14 82 [.agg (ah c.r (cS Z c Y)).toArray] (some 17) rfl (aA fun ww hf => eY c.r.next c.r.data c.r.held (cS Z c Y) c.r.fin c.r.done ww (by omega)) ?_
 intro _
 refine kA [15] <| dr 15 88 [] (some 18) rfl (aA fun ww hf => fc  ww ) ?_
 intro _
 refine kX 16 (.agg #[iI c.t.my,iI c.t.port,iI (ay c.s),iI c.r.next,iI 16,iI (wO c.r),iI 0,iI (-1),.bool false,.bool false,iI 0,iI 0,.string (⟨#[]⟩ : ByteArray)]) rfl (fun _ _ ww hA => aN [(0,iI c.t.my),(1,iI c.t.port),(2,iI (ay c.s)),(3,iI c.r.next),(4,iI 16),(5,iI (wO c.r)),(6,.agg #[iI 0,iI (-1),.bool false,.bool false,iI 0,iI 0])] hA rfl (by kernel_rfl) (by kernel_rfl) ww) ?_
 refine kA [17] <| e8 17 1 0 [iI c.t.my,iI c.t.port,iI (ay c.s),iI c.r.next,iI 16,iI (wO c.r),iI 0,iI (-1),.bool false,.bool false,iI 0,iI 0,.string (⟨#[]⟩ : ByteArray)] rfl <| kZ <| kR ?_
 exact ⟨[.agg #[iI c.t.my,iI c.t.port,iI (ay c.s),iI c.r.next,iI 16,iI (wO c.r),iI 0,iI (-1),.bool false,.bool false,iI 0,iI 0,.string (⟨#[]⟩ : ByteArray)]],by kernel_rfl,fun w' hb hf => ⟨rfl,hb⟩⟩
theorem ysAcceptable_c (c : Con) (rV : Value) (g : Seg) (w : World) (hZ : Sl w rV 2 (c.r.held.map pC)) (hsz : c.r.data.size ≤ 4611686018427387904) (hgz : g.body.size ≤ 1048576) : Calls Tryz.prog 83 #[.agg (a7 c rV).toArray, .agg (aG g).toArray] w fun e w' => e = .returned (.bool (cw c g)) ∧ Below w.heap.size w w' := by
 have hlz := segLen_le hgz
 obtain ⟨Z,Y,hY⟩ := hZ.form
 rw [List.length_map] at hY; subst hY
 have hJ := hZ.len; rw [List.length_map] at hJ
 have hqcrh := Sl.capLe hZ
 refine bH (args := [.agg (a7 c (cS Z c Y)).toArray,.agg (aG g).toArray]) (fn := Tryz.f83) [cH Z c Y] Tryz.func83 rfl Tryz.ntmps83 rfl (by simp only [List.mem_cons,List.not_mem_nil,or_false,forall_eq_or_imp,forall_eq]; exact ⟨rfl,hZ⟩) ?_
 refine kQ <| c8 [2,3] ⟨[(2,.p 0 0),(3,.p 1 0)],[⟨44,a7 c (cS Z c Y)⟩,⟨50,aG g⟩],[],[cH Z c Y]⟩ <| kQ <| dh 1 [2,3,7] [(2,.p 0 0),(3,.p 1 0),(7,.v (.agg (aG g).toArray))] 37 [.agg (aG g).toArray] (some 8) rfl (aA fun ww hf => i4 g.src g.dst g.seq g.ack g.flags g.window g.o.mss g.o.scale g.o.sack g.o.stamp g.o.val g.o.echo g.body ww (by omega)) ?_
 intro _
 refine aJ [2,3,5] [(2,.p 0 0),(3,.p 1 0),(5,aI (bQ g))] <| kQ <| dh 2 [2,3,5,10] [(2,.p 0 0),(3,.p 1 0),(5,aI (bQ g)),(10,.v (.agg (ah c.r (cS Z c Y)).toArray))] 82 [.agg (ah c.r (cS Z c Y)).toArray] (some 11) rfl (aA fun ww hf => eY c.r.next c.r.data c.r.held (cS Z c Y) c.r.fin c.r.done ww (by omega)) ?_
 intro _
 refine aJ [2,3,5,6] [(2,.p 0 0),(3,.p 1 0),(5,aI (bQ g)),(6,aI (wO c.r))] <| kS <| kQ <| aJ [2,3,5,6,13] [(2,.p 0 0),(3,.p 1 0),(5,aI (bQ g)),(6,aI (wO c.r)),(13,aB ((bQ g) == 0))] ?_
 refine kC ((bQ g) == 0) (fun h1 => ?_) (fun h1 => ?_)
 have h1p := bC h1
 refine kS <| bo ⟨[(4,aB (((au g.seq c.r.next) == 0) || (bP g.seq c.r.next (wO c.r))))],[⟨44,a7 c (cS Z c Y)⟩,⟨50,aG g⟩],[],[cH Z c Y]⟩ ?_ ?_
 refine kG <| dh 5 [2,3,6,15,18] [(2,.p 0 0),(3,.p 1 0),(6,aI (wO c.r)),(15,aI g.seq),(18,aI c.r.next)] 119 [iI g.seq,iI c.r.next] (some 19) rfl (bM fun ww hf => sSeqDiff_c g.seq c.r.next ww ) ?_
 intro _
 refine cR 2 [2,3,6,21] [(2,.p 0 0),(3,.p 1 0),(6,aI (wO c.r)),(21,aB ((au g.seq c.r.next) == 0))] <| kP 21 ((au g.seq c.r.next) == 0) (fun h2 => ?_) (fun h2 => ?_)
 have h2p := bC h2
 refine aJ [4] [(4,aB true)] ?_
 show Wk _ _
 try rw [h2]
 exact kF 2 0 [4]
 have h2p := bA h2
 refine dh 6 [21,23,26,27] [(21,aB false),(23,aI g.seq),(26,aI c.r.next),(27,aI (wO c.r))] 81 [iI g.seq,iI c.r.next,iI (wO c.r)] (some 28) rfl (bM fun ww hf => sInWindow_c g.seq c.r.next (wO c.r) ww ) ?_
 intro _
 refine aJ [4] [(4,aB (bP g.seq c.r.next (wO c.r)))] ?_
 show Wk _ _
 try rw [h2]
 exact kF 2 0 [4]
 refine kR ?_
 exact ⟨[.bool (((au g.seq c.r.next) == 0) || (bP g.seq c.r.next (wO c.r)))],by kernel_rfl,fun w' hb hf => ⟨aU (show (((au g.seq c.r.next) == 0) || (bP g.seq c.r.next (wO c.r)) : Bool) = cw c g from by first | rfl | (simp [cw, *]; done) | grind [cw]),hb⟩⟩
 have h1p := bA h1
 refine kK <| kQ <| dh 7 [31,32,35,36] [(31,aI g.seq),(32,aI (bQ g)),(35,aI c.r.next),(36,aI (wO c.r))] 126 [iI g.seq,iI (bQ g),iI c.r.next,iI (wO c.r)] (some 37) rfl (bM fun ww hf => sOverlaps_c g.seq (bQ g) c.r.next (wO c.r) ww (by omega)) ?_
 intro _
 refine aJ [4] [(4,aB (cM g.seq (bQ g) c.r.next (wO c.r)))] <| kR ?_
 exact ⟨[.bool (cM g.seq (bQ g) c.r.next (wO c.r))],by kernel_rfl,fun w' hb hf => ⟨aU (show (cM g.seq (bQ g) c.r.next (wO c.r) : Bool) = cw c g from by first | rfl | (simp [cw, *]; done) | grind [cw]),hb⟩⟩
theorem ysVerdict_c (c : Con) (rV : Value) (g : Seg) (w : World) (hZ : Sl w rV 2 (c.r.held.map pC)) (hgz : g.body.size ≤ 1048576) (hm : ∀ p ∈ c.r.held, p.text.size ≤ 1048576) (hsz : c.r.data.size ≤ 4611686018427387904) : Calls Tryz.prog 29 #[.agg (a7 c rV).toArray, .agg (aG g).toArray] w fun e w' => e = .returned (iI (a9 c g)) ∧ Below w.heap.size w w' := by
 obtain ⟨Z,Y,hY⟩ := hZ.form
 rw [List.length_map] at hY; subst hY
 have hJ := hZ.len; rw [List.length_map] at hJ
 have hqcrh := Sl.capLe hZ
 refine bH (args := [.agg (a7 c (cS Z c Y)).toArray,.agg (aG g).toArray]) (fn := Tryz.f29) [cH Z c Y] Tryz.func29 rfl Tryz.ntmps29 rfl (by simp only [List.mem_cons,List.not_mem_nil,or_false,forall_eq_or_imp,forall_eq]; exact ⟨rfl,hZ⟩) ?_
 refine kQ <| c8 [2,3] ⟨[(2,.p 0 0),(3,.p 1 0)],[⟨44,a7 c (cS Z c Y)⟩,⟨50,aG g⟩],[],[cH Z c Y]⟩ <| kS <| aZ <| kS <| bo ⟨[(2,.p 0 0),(3,.p 1 0),(5,aB ((!(aW c)) || ((c.state == 8) || (!(cr g)))))],[⟨44,a7 c (cS Z c Y)⟩,⟨50,aG g⟩],[],[cH Z c Y]⟩ ?_ ?_
 refine kG <| dh 1 [2,3,6] [(2,.p 0 0),(3,.p 1 0),(6,.v (.agg (a7 c (cS Z c Y)).toArray))] 25 [.agg (a7 c (cS Z c Y)).toArray] (some 7) rfl (aA fun ww hf => es c (cS Z c Y) ww (hf _ m0) (by assumption) (by omega)) ?_
 intro _
 refine cR 2 [2,3,9] [(2,.p 0 0),(3,.p 1 0),(9,aB (!(aW c)))] <| kP 9 (!(aW c)) (fun h1 => ?_) (fun h1 => ?_)
 have h1n := bg h1
 refine aJ [2,3,5] [(2,.p 0 0),(3,.p 1 0),(5,aB true)] ?_
 show Wk _ _
 try rw [h1]
 exact kF 2 0 [2,3,5]
 have h1n := aD h1
 refine cR 5 [2,3,14] [(2,.p 0 0),(3,.p 1 0),(14,aB (c.state == 8))] <| kP 14 (c.state == 8) (fun h2 => ?_) (fun h2 => ?_)
 have h2p := bC h2
 refine aJ [2,3,5] [(2,.p 0 0),(3,.p 1 0),(5,aB true)] ?_
 show Wk _ _
 try rw [h1]
 try rw [h2]
 exact kF 2 0 [2,3,5]
 have h2p := bA h2
 refine dh 1 [2,3,14,15] [(2,.p 0 0),(3,.p 1 0),(14,aB false),(15,.v (.agg (aG g).toArray))] 80 [.agg (aG g).toArray] (some 16) rfl (aA fun ww hf => ysSegmentOk_c g ww (by first | omega | exact Nat.zero_le _)) ?_
 intro _
 refine aJ [2,3,5] [(2,.p 0 0),(3,.p 1 0),(5,aB (!(cr g)))] ?_
 show Wk _ _
 try rw [h1]
 try rw [h2]
 exact kF 2 0 [2,3,5]
 refine kC ((!(aW c)) || ((c.state == 8) || (!(cr g)))) (fun h3 => ?_) (fun h3 => ?_)
 refine kQ <| aJ [4] [(4,aI 1)] <| kR ?_
 have hmod : a9 c g = 1 := by first | rfl | (simp [a9, *]; done) | grind [a9]
 exact ⟨[iI 1],by kernel_rfl,fun w' hb hf => by rw [hmod]; exact ⟨rfl,hb⟩⟩
 have h3l := eA h3
 have h3ln := aD h3l
 have h3r := f6 h3
 have h3rl := eA h3r
 have h3rlp := bA h3rl
 have h3rr := f6 h3r
 have h3rrn := aD h3rr
 refine kS <| bo ⟨[(2,.p 0 0),(3,.p 1 0),(19,aB ((bj g.flags 4) && (g.seq == c.r.next)))],[⟨44,a7 c (cS Z c Y)⟩,⟨50,aG g⟩],[],[cH Z c Y]⟩ ?_ ?_
 refine kG <| dh 1 [2,3,20] [(2,.p 0 0),(3,.p 1 0),(20,.v (.agg (aG g).toArray))] 34 [.agg (aG g).toArray,iI 4] (some 21) rfl (aA fun ww hf => sHas_c g.src g.dst g.seq g.ack g.flags g.window g.o.mss g.o.scale g.o.sack g.o.stamp g.o.val g.o.echo g.body 4 ww ) ?_
 intro _
 refine cR 1 [2,3,22] [(2,.p 0 0),(3,.p 1 0),(22,aB (bj g.flags 4))] <| kP 22 (bj g.flags 4) (fun h4 => ?_) (fun h4 => ?_)
 refine aJ [2,3,19] [(2,.p 0 0),(3,.p 1 0),(19,aB (g.seq == c.r.next))] ?_
 show Wk _ _
 try rw [h4]
 exact kF 2 0 [2,3,19]
 refine aJ [2,3,19] [(2,.p 0 0),(3,.p 1 0),(19,aB false)] ?_
 show Wk _ _
 try rw [h4]
 exact kF 2 0 [2,3,19]
 refine kC ((bj g.flags 4) && (g.seq == c.r.next)) (fun h5 => ?_) (fun h5 => ?_)
 have h5l := gA h5
 have h5r := gG h5
 have h5rp := bC h5r
 refine kQ <| aJ [4] [(4,aI 2)] <| kR ?_
 have hmod : a9 c g = 2 := by first | rfl | (simp [a9, *]; done) | grind [a9]
 exact ⟨[iI 2],by kernel_rfl,fun w' hb hf => by rw [hmod]; exact ⟨rfl,hb⟩⟩
 refine kS <| bo ⟨[(2,.p 0 0),(3,.p 1 0),(30,aB ((bj g.flags 4) && (bP g.seq c.r.next (wO c.r))))],[⟨44,a7 c (cS Z c Y)⟩,⟨50,aG g⟩],[],[cH Z c Y]⟩ ?_ ?_
 refine cm [] (by kernel_rfl) (fun ρ σ => ?_)
 refine ca [0] [31,2,3] 13 [(31,.v (.agg (aG g).toArray)),(2,.p 0 0),(3,.p 1 0)] <| kA [1] <| dr 1 34 [.agg (aG g).toArray,iI 4] (some 32) rfl (aA fun ww hf => sHas_c g.src g.dst g.seq g.ack g.flags g.window g.o.mss g.o.scale g.o.sack g.o.stamp g.o.val g.o.echo g.body 4 ww ) ?_
 intro _
 refine ca [2] [33,2,3] 11 [(33,aB (bj g.flags 4)),(2,.p 0 0),(3,.p 1 0)] <| kY 33 (bj g.flags 4) (fun h6 => ?_) (fun h6 => ?_)
 refine ca [3,4,5,6,7,8,9] [40,38,35,33,2,3] 4 [(40,.v (.agg (ah c.r (cS Z c Y)).toArray)),(38,aI c.r.next),(35,aI g.seq),(33,aB true),(2,.p 0 0),(3,.p 1 0)] <| kA [10] <| dr 10 82 [.agg (ah c.r (cS Z c Y)).toArray] (some 41) rfl (aA fun ww hf => eY c.r.next c.r.data c.r.held (cS Z c Y) c.r.fin c.r.done ww (by omega)) ?_
 intro _
 refine kA [11] <| dr 11 81 [iI g.seq,iI c.r.next,iI (wO c.r)] (some 42) rfl (bM fun ww hf => sInWindow_c g.seq c.r.next (wO c.r) ww ) ?_
 intro _
 refine ca [12,13] [30,2,3] 0 [(30,aB (bP g.seq c.r.next (wO c.r))),(2,.p 0 0),(3,.p 1 0)] <| kZ ?_
 show Wk _ _
 try rw [h6]
 exact kF 2 0 [2,3,30]
 refine ca [3,4,5,6,7,8,9,10,11,12,13] [30,2,3] 0 [(30,aB false),(2,.p 0 0),(3,.p 1 0)] <| kZ ?_
 show Wk _ _
 try rw [h6]
 exact kF 2 0 [2,3,30]
 refine kC ((bj g.flags 4) && (bP g.seq c.r.next (wO c.r))) (fun h7 => ?_) (fun h7 => ?_)
 have h7l := gA h7
 have h7r := gG h7
 refine kQ <| aJ [4] [(4,aI 3)] <| kR ?_
 have hmod : a9 c g = 3 := by first | rfl | (simp [a9, *]; done) | grind [a9]
 exact ⟨[iI 3],by kernel_rfl,fun w' hb hf => by rw [hmod]; exact ⟨rfl,hb⟩⟩
 refine kQ <| dh 1 [2,3,45] [(2,.p 0 0),(3,.p 1 0),(45,.v (.agg (aG g).toArray))] 34 [.agg (aG g).toArray,iI 4] (some 46) rfl (aA fun ww hf => sHas_c g.src g.dst g.seq g.ack g.flags g.window g.o.mss g.o.scale g.o.sack g.o.stamp g.o.val g.o.echo g.body 4 ww ) ?_
 intro _
 refine aJ [2,3,44] [(2,.p 0 0),(3,.p 1 0),(44,aB (bj g.flags 4))] <| kC (bj g.flags 4) (fun h8 => ?_) (fun h8 => ?_)
 refine kQ <| aJ [4] [(4,aI 1)] <| kR ?_
 have hmod : a9 c g = 1 := by first | rfl | (simp [a9, *]; done) | grind [a9]
 exact ⟨[iI 1],by kernel_rfl,fun w' hb hf => by rw [hmod]; exact ⟨rfl,hb⟩⟩
 refine kQ <| dh 1 [2,3,48] [(2,.p 0 0),(3,.p 1 0),(48,.v (.agg (aG g).toArray))] 34 [.agg (aG g).toArray,iI 2] (some 49) rfl (aA fun ww hf => sHas_c g.src g.dst g.seq g.ack g.flags g.window g.o.mss g.o.scale g.o.sack g.o.stamp g.o.val g.o.echo g.body 2 ww ) ?_
 intro _
 refine aJ [2,3,47] [(2,.p 0 0),(3,.p 1 0),(47,aB (bj g.flags 2))] <| kC (bj g.flags 2) (fun h9 => ?_) (fun h9 => ?_)
 refine kQ <| aJ [4] [(4,aI 3)] <| kR ?_
 have hmod : a9 c g = 3 := by first | rfl | (simp [a9, *]; done) | grind [a9]
 exact ⟨[iI 3],by kernel_rfl,fun w' hb hf => by rw [hmod]; exact ⟨rfl,hb⟩⟩
 refine kQ <| dh 2 [2,3,51,52] [(2,.p 0 0),(3,.p 1 0),(51,.v (.agg (a7 c (cS Z c Y)).toArray)),(52,.v (.agg (aG g).toArray))] 83 [.agg (a7 c (cS Z c Y)).toArray,.agg (aG g).toArray] (some 53) rfl (aA fun ww hf => ysAcceptable_c c (cS Z c Y) g ww (hf _ m0) (by first | omega | (dsimp only; omega)) (by first | omega | assumption)) ?_
 intro _
 refine aJ [2,3,50] [(2,.p 0 0),(3,.p 1 0),(50,aB (!(cw c g)))] <| kC (!(cw c g)) (fun h10 => ?_) (fun h10 => ?_)
 have h10n := bg h10
 refine kQ <| aJ [4] [(4,aI 4)] <| kR ?_
 have hmod : a9 c g = 4 := by first | rfl | (simp [a9, *]; done) | grind [a9]
 exact ⟨[iI 4],by kernel_rfl,fun w' hb hf => by rw [hmod]; exact ⟨rfl,hb⟩⟩
 have h10n := aD h10
 refine kQ <| dh 1 [2,3,56] [(2,.p 0 0),(3,.p 1 0),(56,.v (.agg (aG g).toArray))] 34 [.agg (aG g).toArray,iI 16] (some 57) rfl (aA fun ww hf => sHas_c g.src g.dst g.seq g.ack g.flags g.window g.o.mss g.o.scale g.o.sack g.o.stamp g.o.val g.o.echo g.body 16 ww ) ?_
 intro _
 refine aJ [2,3,55] [(2,.p 0 0),(3,.p 1 0),(55,aB (!(bj g.flags 16)))] <| kC (!(bj g.flags 16)) (fun h11 => ?_) (fun h11 => ?_)
 have h11n := bg h11
 refine kQ <| aJ [4] [(4,aI 1)] <| kR ?_
 have hmod : a9 c g = 1 := by first | rfl | (simp [a9, *]; done) | grind [a9]
 exact ⟨[iI 1],by kernel_rfl,fun w' hb hf => by rw [hmod]; exact ⟨rfl,hb⟩⟩
 have h11n := aD h11
 refine kQ <| dh 3 [60,62] [(60,.v (.agg (a7 c (cS Z c Y)).toArray)),(62,aI g.ack)] 84 [.agg (a7 c (cS Z c Y)).toArray,iI g.ack] (some 63) rfl (aA fun ww hf => sAckFits_c c.t.ip c.t.port c.t.my c.state c.s.una c.s.data c.s.sent c.s.fin c.s.finSent c.s.done c.r.next c.r.data c.r.held (cS Z c Y) c.r.fin c.r.done c.window c.most c.o.mss c.o.scale c.o.sack c.o.stamp c.o.val c.o.echo c.timer c.tries g.ack ww ) ?_
 intro _
 refine aJ [59] [(59,aB (!(dC c g.ack)))] <| kC (!(dC c g.ack)) (fun h12 => ?_) (fun h12 => ?_)
 have h12n := bg h12
 refine kQ <| aJ [4] [(4,aI 3)] <| kR ?_
 have hmod : a9 c g = 3 := by first | rfl | (simp [a9, *]; done) | grind [a9]
 exact ⟨[iI 3],by kernel_rfl,fun w' hb hf => by rw [hmod]; exact ⟨rfl,hb⟩⟩
 have h12n := aD h12
 refine kK <| kQ <| aJ [4] [(4,aI 5)] <| kR ?_
 have hmod : a9 c g = 5 := by first | rfl | (simp [a9, *]; done) | grind [a9]
 exact ⟨[iI 5],by kernel_rfl,fun w' hb hf => by rw [hmod]; exact ⟨rfl,hb⟩⟩
theorem yiSegmentOk_c (g : Seg) (w : World) (hsz : g.body.size ≤ 4611686018427387904) : Calls Tryz.prog 93 #[.agg (aG g).toArray] w fun e w' => e = .returned (.bool (cr g)) ∧ Below w.heap.size w w' := by
 refine bH (args := [.agg (aG g).toArray]) (fn := Tryz.f93) [] Tryz.func93 rfl Tryz.ntmps93 rfl (by simp) ?_
 refine kQ <| c8 [1] ⟨[(1,.p 0 0)],[⟨50,aG g⟩],[],[]⟩ <| kS <| bo ⟨[(2,aB ((ac g.src 16) && ((ac g.dst 16) && ((ac g.window 16) && ((ac g.seq 32) && ((ac g.ack 32) && ((ac g.flags 6) && ((bl g.o) && (decide ((g.body.size : Int) ≤ 1420))))))))))],[⟨50,aG g⟩],[],[]⟩ ?_ ?_
 refine kG <| dh 2 [1,4] [(1,.p 0 0),(4,aI g.src)] 113 [iI g.src,iI 16] (some 5) rfl (bM fun ww hf => ft g.src ww) ?_
 intro _
 refine cR 1 [1,6] [(1,.p 0 0),(6,aB (ac g.src 16))] <| kP 6 (ac g.src 16) (fun h1 => ?_) (fun h1 => ?_)
 refine dh 2 [1,6,8] [(1,.p 0 0),(6,aB true),(8,aI g.dst)] 113 [iI g.dst,iI 16] (some 9) rfl (bM fun ww hf => ft g.dst ww) ?_
 intro _
 refine cR 2 [1,11] [(1,.p 0 0),(11,aB (ac g.dst 16))] <| kP 11 (ac g.dst 16) (fun h2 => ?_) (fun h2 => ?_)
 refine dh 2 [1,11,13] [(1,.p 0 0),(11,aB true),(13,aI g.window)] 113 [iI g.window,iI 16] (some 14) rfl (bM fun ww hf => ft g.window ww) ?_
 intro _
 refine cR 2 [1,16] [(1,.p 0 0),(16,aB (ac g.window 16))] <| kP 16 (ac g.window 16) (fun h3 => ?_) (fun h3 => ?_)
 refine dh 2 [1,16,18] [(1,.p 0 0),(16,aB true),(18,aI g.seq)] 113 [iI g.seq,iI 32] (some 19) rfl (bM fun ww hf => fu g.seq ww) ?_
 intro _
 refine cR 2 [1,21] [(1,.p 0 0),(21,aB (ac g.seq 32))] <| kP 21 (ac g.seq 32) (fun h4 => ?_) (fun h4 => ?_)
 refine dh 2 [1,21,23] [(1,.p 0 0),(21,aB true),(23,aI g.ack)] 113 [iI g.ack,iI 32] (some 24) rfl (bM fun ww hf => fu g.ack ww) ?_
 intro _
 refine cR 2 [1,26] [(1,.p 0 0),(26,aB (ac g.ack 32))] <| kP 26 (ac g.ack 32) (fun h5 => ?_) (fun h5 => ?_)
 refine dh 2 [1,26,28] [(1,.p 0 0),(26,aB true),(28,aI g.flags)] 113 [iI g.flags,iI 6] (some 29) rfl (bM fun ww hf => ic g.flags ww) ?_
 intro _
 refine cR 2 [1,31] [(1,.p 0 0),(31,aB (ac g.flags 6))] <| kP 31 (ac g.flags 6) (fun h6 => ?_) (fun h6 => ?_)
 refine dh 2 [1,31,33] [(1,.p 0 0),(31,aB true),(33,.v (.agg (df g.o).toArray))] 61 [.agg (df g.o).toArray] (some 34) rfl (aA fun ww hf => iOptionsOk_c g.o.mss g.o.scale g.o.sack g.o.stamp g.o.val g.o.echo ww ) ?_
 intro _
 refine cR 2 [1,36] [(1,.p 0 0),(36,aB (bl g.o))] <| kP 36 (bl g.o) (fun h7 => ?_) (fun h7 => ?_)
 refine aJ [2] [(2,aB (decide ((g.body.size : Int) ≤ 1420)))] ?_
 show Wk _ _
 try rw [h1]
 try rw [h2]
 try rw [h3]
 try rw [h4]
 try rw [h5]
 try rw [h6]
 try rw [h7]
 exact kF 1 0 [2]
 refine aJ [2] [(2,aB false)] ?_
 show Wk _ _
 try rw [h1]
 try rw [h2]
 try rw [h3]
 try rw [h4]
 try rw [h5]
 try rw [h6]
 try rw [h7]
 exact kF 1 0 [2]
 refine aJ [2] [(2,aB false)] ?_
 show Wk _ _
 try rw [h1]
 try rw [h2]
 try rw [h3]
 try rw [h4]
 try rw [h5]
 try rw [h6]
 exact kF 1 0 [2]
 refine aJ [2] [(2,aB false)] ?_
 show Wk _ _
 try rw [h1]
 try rw [h2]
 try rw [h3]
 try rw [h4]
 try rw [h5]
 exact kF 1 0 [2]
 refine aJ [2] [(2,aB false)] ?_
 show Wk _ _
 try rw [h1]
 try rw [h2]
 try rw [h3]
 try rw [h4]
 exact kF 1 0 [2]
 refine aJ [2] [(2,aB false)] ?_
 show Wk _ _
 try rw [h1]
 try rw [h2]
 try rw [h3]
 exact kF 1 0 [2]
 refine aJ [2] [(2,aB false)] ?_
 show Wk _ _
 try rw [h1]
 try rw [h2]
 exact kF 1 0 [2]
 refine aJ [2] [(2,aB false)] ?_
 show Wk _ _
 try rw [h1]
 exact kF 1 0 [2]
 refine kR ?_
 exact ⟨[.bool ((ac g.src 16) && ((ac g.dst 16) && ((ac g.window 16) && ((ac g.seq 32) && ((ac g.ack 32) && ((ac g.flags 6) && ((bl g.o) && (decide ((g.body.size : Int) ≤ 1420)))))))))],by kernel_rfl,fun w' hb hf => ⟨aU (show ((ac g.src 16) && ((ac g.dst 16) && ((ac g.window 16) && ((ac g.seq 32) && ((ac g.ack 32) && ((ac g.flags 6) && ((bl g.o) && (decide ((g.body.size : Int) ≤ 1420)))))))) : Bool) = cr g from by first | rfl | (simp [cr, *]; done) | (simp [cr, *]; omega) | grind [bv,cr]),hb⟩⟩
theorem iw (c : Con) (rV : Value) (w : World) (hZ : Sl w rV 2 (c.r.held.map pC)) (hsz : c.r.data.size ≤ 4611686018427387904) : Calls Tryz.prog 45 #[.agg (a7 c rV).toArray] w fun e w' => e = .returned (.agg #[iI c.t.my, iI c.t.port, iI (ay c.s), iI c.r.next, iI 16, iI (wO c.r), iI 0, iI (-1), .bool false, .bool false, iI 0, iI 0, .string (⟨#[]⟩ : ByteArray)]) ∧ Below w.heap.size w w' := by
 obtain ⟨Z,Y,hY⟩ := hZ.form
 rw [List.length_map] at hY; subst hY
 have hJ := hZ.len; rw [List.length_map] at hJ
 have hqcrh := Sl.capLe hZ
 refine bH (args := [.agg (a7 c (cS Z c Y)).toArray]) (fn := Tryz.f45) [cH Z c Y] Tryz.func45 rfl Tryz.ntmps45 rfl (by simp only [List.mem_cons,List.not_mem_nil,or_false,forall_eq_or_imp,forall_eq]; exact ⟨rfl,hZ⟩) ?_
 refine kQ <| c8 [1,2] ⟨[(1,.p 0 0),(2,.p 1 0)],[⟨44,a7 c (cS Z c Y)⟩,⟨50,er⟩],[],[cH Z c Y]⟩ <| kS <| cm [true,false] (by kernel_rfl) (fun ρ σ => ?_)
 refine ca [0,1,2,3,4,5,6,7,9,10,11,12,13] [16,14,10,8,5,2] 5 [(16,.v (.agg (ah c.r (cS Z c Y)).toArray)),(14,aI c.r.next),(10,.v (.agg (ai c.s).toArray)),(8,aI c.t.port),(5,aI c.t.my),(2,.p 1 0)] <| kA [8] <| dr 8 99 [.agg (ai c.s).toArray] (some 11) rfl (aA fun ww hf => iNextOf_c c.s.una c.s.data c.s.sent c.s.fin c.s.finSent c.s.done ww ) ?_
 intro _
 refine kA [14] <| dr 14 95 [.agg (ah c.r (cS Z c Y)).toArray] (some 17) rfl (aA fun ww hf => fD c.r.next c.r.data c.r.held (cS Z c Y) c.r.fin c.r.done ww (by omega)) ?_
 intro _
 refine kA [15] <| dr 15 100 [] (some 18) rfl (aA fun ww hf => iNoOptions_c  ww ) ?_
 intro _
 refine kX 16 (.agg #[iI c.t.my,iI c.t.port,iI (ay c.s),iI c.r.next,iI 16,iI (wO c.r),iI 0,iI (-1),.bool false,.bool false,iI 0,iI 0,.string (⟨#[]⟩ : ByteArray)]) rfl (fun _ _ ww hA => aN [(0,iI c.t.my),(1,iI c.t.port),(2,iI (ay c.s)),(3,iI c.r.next),(4,iI 16),(5,iI (wO c.r)),(6,.agg #[iI 0,iI (-1),.bool false,.bool false,iI 0,iI 0])] hA rfl (by kernel_rfl) (by kernel_rfl) ww) ?_
 refine kA [17] <| e8 17 1 0 [iI c.t.my,iI c.t.port,iI (ay c.s),iI c.r.next,iI 16,iI (wO c.r),iI 0,iI (-1),.bool false,.bool false,iI 0,iI 0,.string (⟨#[]⟩ : ByteArray)] rfl <| kZ <| kR ?_
 exact ⟨[.agg #[iI c.t.my,iI c.t.port,iI (ay c.s),iI c.r.next,iI 16,iI (wO c.r),iI 0,iI (-1),.bool false,.bool false,iI 0,iI 0,.string (⟨#[]⟩ : ByteArray)]],by kernel_rfl,fun w' hb hf => ⟨rfl,hb⟩⟩
theorem yiAcceptable_c (c : Con) (rV : Value) (g : Seg) (w : World) (hZ : Sl w rV 2 (c.r.held.map pC)) (hsz : c.r.data.size ≤ 4611686018427387904) (hgz : g.body.size ≤ 1048576) : Calls Tryz.prog 96 #[.agg (a7 c rV).toArray, .agg (aG g).toArray] w fun e w' => e = .returned (.bool (cw c g)) ∧ Below w.heap.size w w' := by
 have hlz := segLen_le hgz
 obtain ⟨Z,Y,hY⟩ := hZ.form
 rw [List.length_map] at hY; subst hY
 have hJ := hZ.len; rw [List.length_map] at hJ
 have hqcrh := Sl.capLe hZ
 refine bH (args := [.agg (a7 c (cS Z c Y)).toArray,.agg (aG g).toArray]) (fn := Tryz.f96) [cH Z c Y] Tryz.func96 rfl Tryz.ntmps96 rfl (by simp only [List.mem_cons,List.not_mem_nil,or_false,forall_eq_or_imp,forall_eq]; exact ⟨rfl,hZ⟩) ?_
 refine kQ <| c8 [2,3] ⟨[(2,.p 0 0),(3,.p 1 0)],[⟨44,a7 c (cS Z c Y)⟩,⟨50,aG g⟩],[],[cH Z c Y]⟩ <| kS <| cm [] (by kernel_rfl) (fun ρ σ => ?_)
 refine ca [0,2,3] [10,7,2,3] 4 [(10,.v (.agg (ah c.r (cS Z c Y)).toArray)),(7,.v (.agg (aG g).toArray)),(2,.p 0 0),(3,.p 1 0)] <| kA [1] <| dr 1 47 [.agg (aG g).toArray] (some 8) rfl (aA fun ww hf => i6 g.src g.dst g.seq g.ack g.flags g.window g.o.mss g.o.scale g.o.sack g.o.stamp g.o.val g.o.echo g.body ww (by omega)) ?_
 intro _
 refine kA [4] <| dr 4 95 [.agg (ah c.r (cS Z c Y)).toArray] (some 11) rfl (aA fun ww hf => fD c.r.next c.r.data c.r.held (cS Z c Y) c.r.fin c.r.done ww (by omega)) ?_
 intro _
 refine ca [5,6] [6,5,2,3] 0 [(6,aI (wO c.r)),(5,aI (bQ g)),(2,.p 0 0),(3,.p 1 0)] <| kZ <| kS <| kQ <| aJ [2,3,5,6,13] [(2,.p 0 0),(3,.p 1 0),(5,aI (bQ g)),(6,aI (wO c.r)),(13,aB ((bQ g) == 0))] ?_
 refine kC ((bQ g) == 0) (fun h1 => ?_) (fun h1 => ?_)
 have h1p := bC h1
 refine kS <| bo ⟨[(4,aB (((au g.seq c.r.next) == 0) || (bP g.seq c.r.next (wO c.r))))],[⟨44,a7 c (cS Z c Y)⟩,⟨50,aG g⟩],[],[cH Z c Y]⟩ ?_ ?_
 refine kG <| dh 5 [2,3,6,15,18] [(2,.p 0 0),(3,.p 1 0),(6,aI (wO c.r)),(15,aI g.seq),(18,aI c.r.next)] 30 [iI g.seq,iI c.r.next] (some 19) rfl (bM fun ww hf => iSeqDiff_c g.seq c.r.next ww ) ?_
 intro _
 refine cR 2 [2,3,6,21] [(2,.p 0 0),(3,.p 1 0),(6,aI (wO c.r)),(21,aB ((au g.seq c.r.next) == 0))] <| kP 21 ((au g.seq c.r.next) == 0) (fun h2 => ?_) (fun h2 => ?_)
 have h2p := bC h2
 refine aJ [4] [(4,aB true)] ?_
 show Wk _ _
 try rw [h2]
 exact kF 2 0 [4]
 have h2p := bA h2
 refine dh 6 [21,23,26,27] [(21,aB false),(23,aI g.seq),(26,aI c.r.next),(27,aI (wO c.r))] 94 [iI g.seq,iI c.r.next,iI (wO c.r)] (some 28) rfl (bM fun ww hf => iInWindow_c g.seq c.r.next (wO c.r) ww ) ?_
 intro _
 refine aJ [4] [(4,aB (bP g.seq c.r.next (wO c.r)))] ?_
 show Wk _ _
 try rw [h2]
 exact kF 2 0 [4]
 refine kR ?_
 exact ⟨[.bool (((au g.seq c.r.next) == 0) || (bP g.seq c.r.next (wO c.r)))],by kernel_rfl,fun w' hb hf => ⟨aU (show (((au g.seq c.r.next) == 0) || (bP g.seq c.r.next (wO c.r)) : Bool) = cw c g from by first | rfl | (simp [cw, *]; done) | grind [cw]),hb⟩⟩
 have h1p := bA h1
 refine kK <| kQ <| dh 7 [31,32,35,36] [(31,aI g.seq),(32,aI (bQ g)),(35,aI c.r.next),(36,aI (wO c.r))] 129 [iI g.seq,iI (bQ g),iI c.r.next,iI (wO c.r)] (some 37) rfl (bM fun ww hf => iOverlaps_c g.seq (bQ g) c.r.next (wO c.r) ww ) ?_
 intro _
 refine aJ [4] [(4,aB (cM g.seq (bQ g) c.r.next (wO c.r)))] <| kR ?_
 exact ⟨[.bool (cM g.seq (bQ g) c.r.next (wO c.r))],by kernel_rfl,fun w' hb hf => ⟨aU (show (cM g.seq (bQ g) c.r.next (wO c.r) : Bool) = cw c g from by first | rfl | (simp [cw, *]; done) | grind [cw]),hb⟩⟩
theorem yiVerdict_c (c : Con) (rV : Value) (g : Seg) (w : World) (hZ : Sl w rV 2 (c.r.held.map pC)) (hgz : g.body.size ≤ 1048576) (hm : ∀ p ∈ c.r.held, p.text.size ≤ 1048576) (hsz : c.r.data.size ≤ 4611686018427387904) : Calls Tryz.prog 42 #[.agg (a7 c rV).toArray, .agg (aG g).toArray] w fun e w' => e = .returned (iI (a9 c g)) ∧ Below w.heap.size w w' := by
 obtain ⟨Z,Y,hY⟩ := hZ.form
 rw [List.length_map] at hY; subst hY
 have hJ := hZ.len; rw [List.length_map] at hJ
 have hqcrh := Sl.capLe hZ
 refine bH (args := [.agg (a7 c (cS Z c Y)).toArray,.agg (aG g).toArray]) (fn := Tryz.f42) [cH Z c Y] Tryz.func42 rfl Tryz.ntmps42 rfl (by simp only [List.mem_cons,List.not_mem_nil,or_false,forall_eq_or_imp,forall_eq]; exact ⟨rfl,hZ⟩) ?_
 refine kQ <| c8 [2,3] ⟨[(2,.p 0 0),(3,.p 1 0)],[⟨44,a7 c (cS Z c Y)⟩,⟨50,aG g⟩],[],[cH Z c Y]⟩ <| kS <| kS <| bo ⟨[(2,.p 0 0),(3,.p 1 0),(17,aB ((!(aW c)) || ((c.state == 8) || (!(cr g)))))],[⟨44,a7 c (cS Z c Y)⟩,⟨50,aG g⟩],[],[cH Z c Y]⟩ ?_ ?_
 refine kG <| dh 1 [2,3,5] [(2,.p 0 0),(3,.p 1 0),(5,.v (.agg (a7 c (cS Z c Y)).toArray))] 24 [.agg (a7 c (cS Z c Y)).toArray] (some 6) rfl (aA fun ww hf => iY c (cS Z c Y) ww (hf _ m0) (by assumption) (by omega)) ?_
 intro _
 refine cR 2 [2,3,8] [(2,.p 0 0),(3,.p 1 0),(8,aB (!(aW c)))] <| kP 8 (!(aW c)) (fun h1 => ?_) (fun h1 => ?_)
 have h1n := bg h1
 refine aJ [2,3,17] [(2,.p 0 0),(3,.p 1 0),(17,aB true)] ?_
 show Wk _ _
 try rw [h1]
 exact kF 2 0 [2,3,17]
 have h1n := aD h1
 refine cR 5 [2,3,13] [(2,.p 0 0),(3,.p 1 0),(13,aB (c.state == 8))] <| kP 13 (c.state == 8) (fun h2 => ?_) (fun h2 => ?_)
 have h2p := bC h2
 refine aJ [2,3,17] [(2,.p 0 0),(3,.p 1 0),(17,aB true)] ?_
 show Wk _ _
 try rw [h1]
 try rw [h2]
 exact kF 2 0 [2,3,17]
 have h2p := bA h2
 refine dh 1 [2,3,13,14] [(2,.p 0 0),(3,.p 1 0),(13,aB false),(14,.v (.agg (aG g).toArray))] 93 [.agg (aG g).toArray] (some 15) rfl (aA fun ww hf => yiSegmentOk_c g ww (by first | omega | exact Nat.zero_le _)) ?_
 intro _
 refine aJ [2,3,17] [(2,.p 0 0),(3,.p 1 0),(17,aB (!(cr g)))] ?_
 show Wk _ _
 try rw [h1]
 try rw [h2]
 exact kF 2 0 [2,3,17]
 refine kC ((!(aW c)) || ((c.state == 8) || (!(cr g)))) (fun h3 => ?_) (fun h3 => ?_)
 refine kQ <| aJ [4] [(4,aI 1)] <| kR ?_
 have hmod : a9 c g = 1 := by first | rfl | (simp [a9, *]; done) | grind [a9]
 exact ⟨[iI 1],by kernel_rfl,fun w' hb hf => by rw [hmod]; exact ⟨rfl,hb⟩⟩
 have h3l := eA h3
 have h3ln := aD h3l
 have h3r := f6 h3
 have h3rl := eA h3r
 have h3rlp := bA h3rl
 have h3rr := f6 h3r
 have h3rrn := aD h3rr
 refine kK <| kS <| kQ <| dh 1 [2,3,18] [(2,.p 0 0),(3,.p 1 0),(18,.v (.agg (aG g).toArray))] 44 [.agg (aG g).toArray,iI 4] (some 19) rfl (aA fun ww hf => iHas_c g.src g.dst g.seq g.ack g.flags g.window g.o.mss g.o.scale g.o.sack g.o.stamp g.o.val g.o.echo g.body 4 ww ) ?_
 intro _
 refine aJ [2,3,19] [(2,.p 0 0),(3,.p 1 0),(19,aB (bj g.flags 4))] <| kC (bj g.flags 4) (fun h4 => ?_) (fun h4 => ?_)
 refine kS <| aZ <| kQ <| aJ [2,3,20] [(2,.p 0 0),(3,.p 1 0),(20,aB (g.seq == c.r.next))] ?_
 refine kC (g.seq == c.r.next) (fun h5 => ?_) (fun h5 => ?_)
 have h5p := bC h5
 refine kQ <| aJ [4] [(4,aI 2)] <| kR ?_
 have hmod : a9 c g = 2 := by first | rfl | (simp [a9, *]; done) | grind [a9]
 exact ⟨[iI 2],by kernel_rfl,fun w' hb hf => by rw [hmod]; exact ⟨rfl,hb⟩⟩
 have h5p := bA h5
 refine kS <| cm [] (by kernel_rfl) (fun ρ σ => ?_)
 refine ca [0,1,2,3,4,5,6] [34,32,29] 3 [(34,.v (.agg (ah c.r (cS Z c Y)).toArray)),(32,aI c.r.next),(29,aI g.seq)] <| kA [7] <| dr 7 95 [.agg (ah c.r (cS Z c Y)).toArray] (some 35) rfl (aA fun ww hf => fD c.r.next c.r.data c.r.held (cS Z c Y) c.r.fin c.r.done ww (by omega)) ?_
 intro _
 refine kA [8] <| dr 8 94 [iI g.seq,iI c.r.next,iI (wO c.r)] (some 36) rfl (bM fun ww hf => iInWindow_c g.seq c.r.next (wO c.r) ww ) ?_
 intro _
 refine ca [9] [27] 0 [(27,aB (bP g.seq c.r.next (wO c.r)))] <| kZ <| kC (bP g.seq c.r.next (wO c.r)) (fun h6 => ?_) (fun h6 => ?_)
 refine kQ <| aJ [4] [(4,aI 3)] <| kR ?_
 have hmod : a9 c g = 3 := by first | rfl | (simp [a9, *]; done) | grind [a9]
 exact ⟨[iI 3],by kernel_rfl,fun w' hb hf => by rw [hmod]; exact ⟨rfl,hb⟩⟩
 refine kK <| kQ <| aJ [4] [(4,aI 1)] <| kR ?_
 have hmod : a9 c g = 1 := by first | rfl | (simp [a9, *]; done) | grind [a9]
 exact ⟨[iI 1],by kernel_rfl,fun w' hb hf => by rw [hmod]; exact ⟨rfl,hb⟩⟩
 refine kK <| kS <| aZ <| kQ <| dh 1 [2,3,38] [(2,.p 0 0),(3,.p 1 0),(38,.v (.agg (aG g).toArray))] 44 [.agg (aG g).toArray,iI 2] (some 39) rfl (aA fun ww hf => iHas_c g.src g.dst g.seq g.ack g.flags g.window g.o.mss g.o.scale g.o.sack g.o.stamp g.o.val g.o.echo g.body 2 ww ) ?_
 intro _
 refine aJ [2,3,37] [(2,.p 0 0),(3,.p 1 0),(37,aB (bj g.flags 2))] <| kC (bj g.flags 2) (fun h7 => ?_) (fun h7 => ?_)
 refine kQ <| aJ [4] [(4,aI 3)] <| kR ?_
 have hmod : a9 c g = 3 := by first | rfl | (simp [a9, *]; done) | grind [a9]
 exact ⟨[iI 3],by kernel_rfl,fun w' hb hf => by rw [hmod]; exact ⟨rfl,hb⟩⟩
 refine kQ <| dh 2 [2,3,41,42] [(2,.p 0 0),(3,.p 1 0),(41,.v (.agg (a7 c (cS Z c Y)).toArray)),(42,.v (.agg (aG g).toArray))] 96 [.agg (a7 c (cS Z c Y)).toArray,.agg (aG g).toArray] (some 43) rfl (aA fun ww hf => yiAcceptable_c c (cS Z c Y) g ww (hf _ m0) (by first | omega | (dsimp only; omega)) (by first | omega | assumption)) ?_
 intro _
 refine aJ [2,3,40] [(2,.p 0 0),(3,.p 1 0),(40,aB (!(cw c g)))] <| kC (!(cw c g)) (fun h8 => ?_) (fun h8 => ?_)
 have h8n := bg h8
 refine kQ <| aJ [4] [(4,aI 4)] <| kR ?_
 have hmod : a9 c g = 4 := by first | rfl | (simp [a9, *]; done) | grind [a9]
 exact ⟨[iI 4],by kernel_rfl,fun w' hb hf => by rw [hmod]; exact ⟨rfl,hb⟩⟩
 have h8n := aD h8
 refine kQ <| dh 1 [2,3,46] [(2,.p 0 0),(3,.p 1 0),(46,.v (.agg (aG g).toArray))] 44 [.agg (aG g).toArray,iI 16] (some 47) rfl (aA fun ww hf => iHas_c g.src g.dst g.seq g.ack g.flags g.window g.o.mss g.o.scale g.o.sack g.o.stamp g.o.val g.o.echo g.body 16 ww ) ?_
 intro _
 refine aJ [2,3,45] [(2,.p 0 0),(3,.p 1 0),(45,aB (!(bj g.flags 16)))] <| kC (!(bj g.flags 16)) (fun h9 => ?_) (fun h9 => ?_)
 have h9n := bg h9
 refine kQ <| aJ [4] [(4,aI 1)] <| kR ?_
 have hmod : a9 c g = 1 := by first | rfl | (simp [a9, *]; done) | grind [a9]
 exact ⟨[iI 1],by kernel_rfl,fun w' hb hf => by rw [hmod]; exact ⟨rfl,hb⟩⟩
 have h9n := aD h9
 refine kQ <| dh 3 [50,52] [(50,.v (.agg (a7 c (cS Z c Y)).toArray)),(52,aI g.ack)] 97 [.agg (a7 c (cS Z c Y)).toArray,iI g.ack] (some 53) rfl (aA fun ww hf => iAckFits_c c.t.ip c.t.port c.t.my c.state c.s.una c.s.data c.s.sent c.s.fin c.s.finSent c.s.done c.r.next c.r.data c.r.held (cS Z c Y) c.r.fin c.r.done c.window c.most c.o.mss c.o.scale c.o.sack c.o.stamp c.o.val c.o.echo c.timer c.tries g.ack ww ) ?_
 intro _
 refine aJ [49] [(49,aB (!(dC c g.ack)))] <| kC (!(dC c g.ack)) (fun h10 => ?_) (fun h10 => ?_)
 have h10n := bg h10
 refine kQ <| aJ [4] [(4,aI 3)] <| kR ?_
 have hmod : a9 c g = 3 := by first | rfl | (simp [a9, *]; done) | grind [a9]
 exact ⟨[iI 3],by kernel_rfl,fun w' hb hf => by rw [hmod]; exact ⟨rfl,hb⟩⟩
 have h10n := aD h10
 refine kK <| kQ <| aJ [4] [(4,aI 5)] <| kR ?_
 have hmod : a9 c g = 5 := by first | rfl | (simp [a9, *]; done) | grind [a9]
 exact ⟨[iI 5],by kernel_rfl,fun w' hb hf => by rw [hmod]; exact ⟨rfl,hb⟩⟩
theorem yClonePiece_c (a : List Pce) (aV : Value) (w : World) (hl_aV : Sl w aV 2 (a.map pC)) (hkn : a.length ≤ 1048576) (B : Nat) (hB : B ≤ w.heap.size) : Calls Tryz.prog 130 #[aV] w fun e w' => XRs w w' e (α := Option Addr × Nat) (fun y => .slice y.1 a.length y.2) (fun y => [aF B (.slice y.1 a.length y.2) 2 (a.map pC)]) := by
 obtain ⟨Aa,Ca,hva⟩ := hl_aV.form
 rw [List.length_map] at hva; subst hva
 have hna := hl_aV.len; rw [List.length_map] at hna
 have hqa := Sl.capLe hl_aV
 have hnil := fun h => Sl.nil_of h hl_aV
 refine ck (args := [.slice Aa a.length Ca]) (fn := Tryz.f130) [c7 (.slice Aa a.length Ca) 2 (a.map pC)] Tryz.func130 rfl Tryz.ntmps130 rfl (by simp only [List.mem_cons,List.not_mem_nil,or_false,forall_eq_or_imp,forall_eq]; exact ⟨rfl,hl_aV⟩) ?_
 refine kQ <| c8 [0] ⟨[(0,.v (.slice Aa a.length Ca))],[],[],[c7 (.slice Aa a.length Ca) 2 (a.map pC)]⟩ <| kS <| kQ <| i8 1 [0,3] [(0,.v (.slice Aa a.length Ca)),(3,.v (.slice Aa a.length Ca))] (.bool Aa.isNone) rfl (fun _ _ _ ww hr => act_nilEq (e := 85) hr.1 rfl (by kernel_rfl) rfl rfl ww) ?_
 refine aJ [0,4] [(0,.v (.slice Aa a.length Ca)),(4,aB Aa.isNone)] <| kC (Aa.isNone) (fun h1 => ?_) (fun h1 => ?_)
 refine kQ <| aJ [2] [(2,.v (.slice none 0 0))] <| kR ?_
 have hmod : a = [] := by exact hnil (by assumption)
 exact ⟨[.slice none 0 0],by kernel_rfl,fun w' hb hf ha => by rw [hmod]; exact im ((none,0)) rfl rfl ⟨.inl ⟨rfl,_,rfl⟩,fun b hb => (hb.1 rfl).elim⟩ hb⟩
 refine kK <| kQ <| kHS 0 [0] [(0,.v (.slice Aa a.length Ca))] rfl (bi (e := 85) (K := 2) (bytes := 24) [] (rs := ([] : List Pce).map pC) rfl rfl) ?_
 intro g2
 refine kHS 1 [5,6] [(5,.v (.slice (some ⟨g2,0,none⟩) 0 0)),(6,.v (.slice Aa a.length Ca))] rfl (dt (e := 85) (K := 2) (bytes := 24) (i := 0) (q := a.length) (new := a.map pC) (rs' := a.map pC) rfl rfl rfl rfl (by kernel_rfl) (by kernel_rfl) (by kernel_rfl) rfl (by simp) rfl (by simp) (fun ww hf => (hf (c7 (.slice Aa a.length Ca) 2 (a.map pC)) (by simp))) (by intro r hr; obtain ⟨x,hx,rfl⟩ := List.mem_map.1 hr; exact ⟨rfl,by simp [pC,Value.oneCell']⟩) (by (try simp only [List.length_map,List.length_append,List.length_cons,List.length_nil,List.length_take,List.length_drop,maxLen]); omega) (by (try simp only [List.length_map,List.length_append,List.length_cons,List.length_nil,List.length_take,List.length_drop,maxLen]); omega)) ?_
 rintro ⟨v3a,v3c⟩
 refine aJ [2] [(2,.v (.slice v3a a.length v3c))] <| kR ?_
 exact ⟨[.slice v3a a.length v3c],by kernel_rfl,fun w' hb hf ha => by exact im ((v3a,v3c)) rfl rfl (pR (hf _ m0) hB) hb⟩
theorem gR (r : Rcv) (r_heldV : Value) (w : World) (hl_r_heldV : Sl w r_heldV 2 (r.held.map pC)) (hkn : r.held.length ≤ 1048576) (B : Nat) (hB : B ≤ w.heap.size) : Calls Tryz.prog 86 #[.agg (ah r r_heldV).toArray] w fun e w' => XRs w w' e (α := Option Addr × Nat) (fun y => .agg (ah r (.slice y.1 r.held.length y.2)).toArray) (fun y => [ap B 85 2 (.slice y.1 r.held.length y.2) (r.held.map pC)]) := by
 obtain ⟨Arh,Crh,hvrh⟩ := hl_r_heldV.form
 rw [List.length_map] at hvrh; subst hvrh
 have hnrh := hl_r_heldV.len; rw [List.length_map] at hnrh
 have hqrh := Sl.capLe hl_r_heldV
 refine ck (args := [.agg (ah r (.slice Arh r.held.length Crh)).toArray]) (fn := Tryz.f86) [c7 (.slice Arh r.held.length Crh) 2 (r.held.map pC)] Tryz.func86 rfl Tryz.ntmps86 rfl (by simp only [List.mem_cons,List.not_mem_nil,or_false,forall_eq_or_imp,forall_eq]; exact ⟨rfl,hl_r_heldV⟩) ?_
 refine kQ <| c8 [1,2] ⟨[(1,.p 0 0),(2,.p 1 0)],[⟨41,ah r (.slice Arh r.held.length Crh)⟩,⟨41,dl⟩],[],[c7 (.slice Arh r.held.length Crh) 2 (r.held.map pC)]⟩ <| kQ <| kHS 0 [1,2] [(1,.p 0 0),(2,.p 1 0)] rfl (bi (e := 85) (K := 2) (bytes := 24) [] (rs := ([] : List Pce).map pC) rfl rfl) ?_
 intro g1
 refine kHS 2 [1,2,3,5] [(1,.p 0 0),(2,.p 1 0),(3,.v (.slice (some ⟨g1,0,none⟩) 0 0)),(5,.v (.slice Arh r.held.length Crh))] rfl (dt (e := 85) (K := 2) (bytes := 24) (i := 0) (q := r.held.length) (new := r.held.map pC) (rs' := r.held.map pC) rfl rfl rfl rfl (by kernel_rfl) (by kernel_rfl) (by kernel_rfl) rfl (by simp) rfl (by simp) (fun ww hf => (hf (c7 (.slice Arh r.held.length Crh) 2 (r.held.map pC)) (by simp))) (by intro r hr; obtain ⟨x,hx,rfl⟩ := List.mem_map.1 hr; exact ⟨rfl,by simp [pC,Value.oneCell']⟩) (by (try simp only [List.length_map,List.length_append,List.length_cons,List.length_nil,List.length_take,List.length_drop,maxLen]); omega) (by (try simp only [List.length_map,List.length_append,List.length_cons,List.length_nil,List.length_take,List.length_drop,maxLen]); omega)) ?_
 rintro ⟨v2a,v2c⟩
 refine c8 [1,2] ⟨[(1,.p 0 0),(2,.p 1 0)],[⟨41,ah r (.slice v2a r.held.length v2c)⟩,⟨41,dl⟩],[],[ap w.heap.size 85 2 (.slice v2a r.held.length v2c) (r.held.map pC),c7 (.slice Arh r.held.length Crh) 2 (r.held.map pC)]⟩ <| kQ <| c8 [2] ⟨[(2,.p 1 0)],[⟨41,ah r (.slice v2a r.held.length v2c)⟩,⟨41,ah r (.slice v2a r.held.length v2c)⟩],[],[ap w.heap.size 85 2 (.slice v2a r.held.length v2c) (r.held.map pC),c7 (.slice Arh r.held.length Crh) 2 (r.held.map pC)]⟩ <| kR ?_
 exact ⟨[.agg (ah r (.slice v2a r.held.length v2c)).toArray],by kernel_rfl,fun w' hb hf ha => by exact im ((v2a,v2c)) rfl rfl (pW (hf _ m0) hB) hb⟩
theorem iz (r : Rcv) (r_heldV : Value) (w : World) (hl_r_heldV : Sl w r_heldV 2 (r.held.map pC)) (hkn : r.held.length ≤ 1048576) (B : Nat) (hB : B ≤ w.heap.size) : Calls Tryz.prog 98 #[.agg (ah r r_heldV).toArray] w fun e w' => XRs w w' e (α := Option Addr × Nat) (fun y => .agg (ah r (.slice y.1 r.held.length y.2)).toArray) (fun y => [aF B (.slice y.1 r.held.length y.2) 2 (r.held.map pC)]) := by
 obtain ⟨Arh,Crh,hvrh⟩ := hl_r_heldV.form
 rw [List.length_map] at hvrh; subst hvrh
 have hnrh := hl_r_heldV.len; rw [List.length_map] at hnrh
 have hqrh := Sl.capLe hl_r_heldV
 refine ck (args := [.agg (ah r (.slice Arh r.held.length Crh)).toArray]) (fn := Tryz.f98) [c7 (.slice Arh r.held.length Crh) 2 (r.held.map pC)] Tryz.func98 rfl Tryz.ntmps98 rfl (by simp only [List.mem_cons,List.not_mem_nil,or_false,forall_eq_or_imp,forall_eq]; exact ⟨rfl,hl_r_heldV⟩) ?_
 refine kQ <| c8 [1,2] ⟨[(1,.p 0 0),(2,.p 1 0)],[⟨41,ah r (.slice Arh r.held.length Crh)⟩,⟨41,dl⟩],[],[c7 (.slice Arh r.held.length Crh) 2 (r.held.map pC)]⟩ <| kQ <| dh 2 [1,2,4] [(1,.p 0 0),(2,.p 1 0),(4,.v (.slice Arh r.held.length Crh))] 130 [.slice Arh r.held.length Crh] (some 5) rfl (cZ fun ww hw hf => yClonePiece_c r.held (.slice Arh r.held.length Crh) ww (hf _ m0) (by assumption) w.heap.size hw) ?_
 rintro ⟨v1a,v1c⟩
 refine c8 [1,2] ⟨[(1,.p 0 0),(2,.p 1 0)],[⟨41,ah r (.slice v1a r.held.length v1c)⟩,⟨41,dl⟩],[],[aF w.heap.size (.slice v1a r.held.length v1c) 2 (r.held.map pC),c7 (.slice Arh r.held.length Crh) 2 (r.held.map pC)]⟩ <| kQ <| c8 [2] ⟨[(2,.p 1 0)],[⟨41,ah r (.slice v1a r.held.length v1c)⟩,⟨41,ah r (.slice v1a r.held.length v1c)⟩],[],[aF w.heap.size (.slice v1a r.held.length v1c) 2 (r.held.map pC),c7 (.slice Arh r.held.length Crh) 2 (r.held.map pC)]⟩ <| kR ?_
 exact ⟨[.agg (ah r (.slice v1a r.held.length v1c)).toArray],by kernel_rfl,fun w' hb hf ha => by exact im ((v1a,v1c)) rfl rfl (pO (hf _ m0) hB) hb⟩
theorem eu (c : Con) (rV : Value) (w : World) (hZ : Sl w rV 2 (c.r.held.map pC)) (hkn : c.r.held.length ≤ 1048576) (B : Nat) (hB : B ≤ w.heap.size) : Calls Tryz.prog 33 #[.agg (a7 c rV).toArray] w fun e w' => XRs w w' e (α := Option Addr × Nat) (fun y => .agg (a7 c (.slice y.1 c.r.held.length y.2)).toArray) (fun y => [aF B (.slice y.1 c.r.held.length y.2) 2 (c.r.held.map pC)]) := by
 obtain ⟨Z,Y,hY⟩ := hZ.form
 rw [List.length_map] at hY; subst hY
 have hJ := hZ.len; rw [List.length_map] at hJ
 have hqcrh := Sl.capLe hZ
 refine ck (args := [.agg (a7 c (cS Z c Y)).toArray]) (fn := Tryz.f33) [cH Z c Y] Tryz.func33 rfl Tryz.ntmps33 rfl (by simp only [List.mem_cons,List.not_mem_nil,or_false,forall_eq_or_imp,forall_eq]; exact ⟨rfl,hZ⟩) ?_
 refine kQ <| c8 [1,2] ⟨[(1,.p 0 0),(2,.p 1 0)],[⟨44,a7 c (cS Z c Y)⟩,⟨44,bN⟩],[],[cH Z c Y]⟩ <| kQ <| dh 2 [1,2,4] [(1,.p 0 0),(2,.p 1 0),(4,.v (.agg (ah c.r (cS Z c Y)).toArray))] 86 [.agg (ah c.r (cS Z c Y)).toArray] (some 5) rfl (cZ fun ww hw hf => gR c.r (cS Z c Y) ww (hf _ m0) (by assumption) w.heap.size hw) ?_
 rintro ⟨v1a,v1c⟩
 refine c8 [1,2] ⟨[(1,.p 0 0),(2,.p 1 0)],[⟨44,a7 c (cS v1a c v1c)⟩,⟨44,bN⟩],[],[ap w.heap.size 85 2 (cS v1a c v1c) (c.r.held.map pC),cH Z c Y]⟩ <| kQ <| c8 [2] ⟨[(2,.p 1 0)],[⟨44,a7 c (cS v1a c v1c)⟩,⟨44,a7 c (cS v1a c v1c)⟩],[],[ap w.heap.size 85 2 (cS v1a c v1c) (c.r.held.map pC),cH Z c Y]⟩ <| kR ?_
 exact ⟨[.agg (a7 c (cS v1a c v1c)).toArray],by kernel_rfl,fun w' hb hf ha => by exact im ((v1a,v1c)) rfl rfl (pR (hf _ m0) hB) hb⟩
theorem eO (c : Con) (rV : Value) (w : World) (hZ : Sl w rV 2 (c.r.held.map pC)) (hkn : c.r.held.length ≤ 1048576) (B : Nat) (hB : B ≤ w.heap.size) : Calls Tryz.prog 43 #[.agg (a7 c rV).toArray] w fun e w' => XRs w w' e (α := Option Addr × Nat) (fun y => .agg (a7 c (.slice y.1 c.r.held.length y.2)).toArray) (fun y => [aF B (.slice y.1 c.r.held.length y.2) 2 (c.r.held.map pC)]) := by
 obtain ⟨Z,Y,hY⟩ := hZ.form
 rw [List.length_map] at hY; subst hY
 have hJ := hZ.len; rw [List.length_map] at hJ
 have hqcrh := Sl.capLe hZ
 refine ck (args := [.agg (a7 c (cS Z c Y)).toArray]) (fn := Tryz.f43) [cH Z c Y] Tryz.func43 rfl Tryz.ntmps43 rfl (by simp only [List.mem_cons,List.not_mem_nil,or_false,forall_eq_or_imp,forall_eq]; exact ⟨rfl,hZ⟩) ?_
 refine kQ <| c8 [1,2] ⟨[(1,.p 0 0),(2,.p 1 0)],[⟨44,a7 c (cS Z c Y)⟩,⟨44,bN⟩],[],[cH Z c Y]⟩ <| kQ <| dh 2 [1,2,4] [(1,.p 0 0),(2,.p 1 0),(4,.v (.agg (ah c.r (cS Z c Y)).toArray))] 98 [.agg (ah c.r (cS Z c Y)).toArray] (some 5) rfl (cZ fun ww hw hf => iz c.r (cS Z c Y) ww (hf _ m0) (by assumption) w.heap.size hw) ?_
 rintro ⟨v1a,v1c⟩
 refine c8 [1,2] ⟨[(1,.p 0 0),(2,.p 1 0)],[⟨44,a7 c (cS v1a c v1c)⟩,⟨44,bN⟩],[],[aF w.heap.size (cS v1a c v1c) 2 (c.r.held.map pC),cH Z c Y]⟩ <| kQ <| c8 [2] ⟨[(2,.p 1 0)],[⟨44,a7 c (cS v1a c v1c)⟩,⟨44,a7 c (cS v1a c v1c)⟩],[],[aF w.heap.size (cS v1a c v1c) 2 (c.r.held.map pC),cH Z c Y]⟩ <| kR ?_
 exact ⟨[.agg (a7 c (cS v1a c v1c)).toArray],by kernel_rfl,fun w' hb hf ha => by exact im ((v1a,v1c)) rfl rfl (pO (hf _ m0) hB) hb⟩
theorem yl18Free_c (l : List Int) (lV : Value) (m : Nat) (w : World) (hl_lV : Sl w lV 1 (l.map aq)) (hm : m ≤ l.length) : Calls Tryz.prog 123 #[lV, iI (m : Int)] w fun e w' => e = .returned (.bool (dv l m)) ∧ Below w.heap.size w w' := by
 obtain ⟨Al,Cl,hvl⟩ := hl_lV.form
 rw [List.length_map] at hvl; subst hvl
 have hnl := hl_lV.len; rw [List.length_map] at hnl
 have hql := Sl.capLe hl_lV
 refine bH (args := [.slice Al l.length Cl,iI (m : Int)]) (fn := Tryz.f123) [c7 (.slice Al l.length Cl) 1 (l.map aq)] Tryz.func123 rfl Tryz.ntmps123 rfl (by simp only [List.mem_cons,List.not_mem_nil,or_false,forall_eq_or_imp,forall_eq]; exact ⟨rfl,hl_lV⟩) ?_
 refine kQ <| c8 [0,1] ⟨[(0,.v (.slice Al l.length Cl)),(1,aI (m : Int))],[],[],[c7 (.slice Al l.length Cl) 1 (l.map aq)]⟩ <| kS <| kQ <| aJ [0,5] [(0,.v (.slice Al l.length Cl)),(5,aI (m : Int))] ?_
 refine aZ <| cz (α := {x : Nat // (fun (k : Nat) => k ≤ l.length ∧ dv l m = dv l k) x}) (fun x => (fun (k : Nat) => (⟨[(0,.v (.slice Al l.length Cl)),(5,aI (k : Int))],[],[],[c7 (.slice Al l.length Cl) 1 (l.map aq)]⟩ : St)) x.1) (fun x => l.length - x.1) ⟨(m),⟨hm,rfl⟩⟩ (kF 0 0 [0,5]) ?_
 rintro ⟨k,hk,HK⟩
 try dsimp only
 try dsimp only at hk HK
 refine kS <| kQ <| aJ [0,5,10] [(0,.v (.slice Al l.length Cl)),(5,aI (k : Int)),(10,aB (decide ((k : Int) < ((l.length : Nat) : Int))))] <| kC (decide ((k : Int) < ((l.length : Nat) : Int))) (fun h1 => ?_) (fun h1 => ?_)
 have h1p := of_decide_eq_true h1
 have hlt : k < l.length := by simpa using h1
 obtain ⟨x,hx⟩ : ∃ x,l[k]? = some x := ⟨_,List.getElem?_eq_getElem hlt⟩
 have hfs := freeFrom_step hx
 refine kK <| kS <| aZ <| kQ <| xl_indexS (kd := .i64) (T := 125) (e := 3) (K := 1) 2 [0,5,13,14] [(0,.v (.slice Al l.length Cl)),(5,aI (k : Int)),(13,.v (.slice Al l.length Cl)),(14,aI (k : Int))] k [iI x] (c7 (.slice Al l.length Cl) 1 (l.map aq)) (by kernel_rfl) rfl (by kernel_rfl) rfl rfl (by kernel_rfl) (by kernel_rfl) (by kernel_rfl) (by kernel_rfl) hlt (by simp) (fun w h => h) (fun b h => h) (by simp only [List.getElem?_map,hx]; rfl) ?_
 refine aJ [0,5,17] [(0,.v (.slice Al l.length Cl)),(5,aI (k : Int)),(17,aB (decide (x ≥ 0)))] <| kC (decide (x ≥ 0)) (fun h2 => ?_) (fun h2 => ?_)
 have h2p := of_decide_eq_true h2
 refine kQ <| aJ [4] [(4,aB false)] <| kR ?_
 have hmod : dv l m = false := by first | (rw [HK]; exact hfe) | (rw [HK,hfs]; simp; omega) | (rw [HK,hfs]; simp [*])
 exact ⟨[.bool false],by kernel_rfl,fun w' hb hf => by rw [hmod]; exact ⟨rfl,hb⟩⟩
 have h2p := of_decide_eq_false h2
 refine kK <| kG <| cR 3 [0,5] [(0,.v (.slice Al l.length Cl)),(5,aI (K6.wrap ((k : Int) + 1)))] <| dg (t' := [(0,.v (.slice Al l.length Cl)),(5,aI ((k : Int) + 1))]) (by rw [show (K6.wrap ((k : Int) + 1)) = ((k : Int) + 1) from ab (by omega) (by omega)]) ?_
 refine aJ [0,5] [(0,.v (.slice Al l.length Cl)),(5,aI ((k : Int) + 1))] ?_
 exact ⟨⟨(k + 1),⟨by omega,by rw [HK,hfs]; simp; omega⟩⟩,kF 0 0 [0,5],by show l.length - (k + 1) < l.length - k; omega⟩
 have h1p := of_decide_eq_false h1
 have hge : k = l.length := by simp at h1; omega
 have hfe := freeFrom_end l
 subst hge
 refine cq <| kQ <| aJ [4] [(4,aB true)] <| kR ?_
 have hmod : dv l m = true := by first | (rw [HK]; exact hfe) | (rw [HK,hfs]; simp; omega) | (rw [HK,hfs]; simp [*])
 exact ⟨[.bool true],by kernel_rfl,fun w' hb hf => by rw [hmod]; exact ⟨rfl,hb⟩⟩
theorem yl18Slots_c (r : Rcv) (r_heldV : Value) (w : World) (hl_r_heldV : Sl w r_heldV 2 (r.held.map pC)) (hkn : r.held.length ≤ 1048576) (hheld : ∀ p ∈ r.held, 0 < p.off ∧ p.off + (p.text.size : Int) ≤ 32) (B : Nat) (hB : B ≤ w.heap.size) : Calls Tryz.prog 121 #[.agg (ah r r_heldV).toArray] w fun e w' => XRs w w' e (α := Option Addr × Nat) (fun y => .slice y.1 ((aL r).length) y.2) (fun y => [ap B 3 1 (.slice y.1 ((aL r).length) y.2) ((aL r).map aq)]) := by
 obtain ⟨Arh,Crh,hvrh⟩ := hl_r_heldV.form
 rw [List.length_map] at hvrh; subst hvrh
 have hnrh := hl_r_heldV.len; rw [List.length_map] at hnrh
 have hqrh := Sl.capLe hl_r_heldV
 refine ck (args := [.agg (ah r (.slice Arh r.held.length Crh)).toArray]) (fn := Tryz.f121) [c7 (.slice Arh r.held.length Crh) 2 (r.held.map pC)] Tryz.func121 rfl Tryz.ntmps121 rfl (by simp only [List.mem_cons,List.not_mem_nil,or_false,forall_eq_or_imp,forall_eq]; exact ⟨rfl,hl_r_heldV⟩) ?_
 refine kQ <| c8 [1] ⟨[(1,.p 0 0)],[⟨41,ah r (.slice Arh r.held.length Crh)⟩],[],[c7 (.slice Arh r.held.length Crh) 2 (r.held.map pC)]⟩ <| kQ <| kHS 0 [1] [(1,.p 0 0)] rfl (hv_make (kl := .i64) (kc := .i64) (e := 3) (K := 1) (bytes := 8) (m := 33) (z := iI 0) (rs := (List.replicate 33 0).map aq) rfl (by kernel_rfl) (by kernel_rfl) (by kernel_rfl) (by kernel_rfl) (by (try simp only [List.length_map,List.length_append,List.length_cons,List.length_nil,List.length_take,List.length_drop,maxLen]); omega) (by (try simp only [List.length_map,List.length_append,List.length_cons,List.length_nil,List.length_take,List.length_drop,maxLen]); omega) (by rw [List.map_replicate]; rfl)) ?_
 intro g1
 refine aR [1,3] [(3,.v (.slice (some ⟨g1,0,none⟩) 33 33))] <| kS <| kQ <| aR [1,3,4] [(4,aI 0)] ?_
 refine aZ <| cz (α := {x : Nat × List Int // (fun (k : Nat) (l : List Int) => k ≤ 33 ∧ l.length = 33 ∧ l.take k = List.replicate k (-1)) x.1 x.2}) (fun x => (fun (k : Nat) (l : List Int) => (⟨[(1,.p 0 0),(3,.v (.slice (some ⟨g1,0,none⟩) 33 33)),(4,aI (k : Int))],[⟨41,ah r (.slice Arh r.held.length Crh)⟩],[],[ap w.heap.size 3 1 (.slice (some ⟨g1,0,none⟩) 33 33) (l.map aq),c7 (.slice Arh r.held.length Crh) 2 (r.held.map pC)]⟩ : St)) x.1.1 x.1.2) (fun x => (fun (k : Nat) (l : List Int) => 33 - k) x.1.1 x.1.2) ⟨(0,(List.replicate 33 0)),⟨Nat.zero_le _,by simp,rfl⟩⟩ (ei [0,1] <| kF 1 0 [1,3,4]) ?_
 rintro ⟨⟨k,l⟩,hk,hl,HK⟩
 try dsimp only
 try dsimp only at hk hl HK
 refine kS <| kQ <| aR [1,3,4,11] [(11,aB (decide ((k : Int) < 33)))] <| kC (decide ((k : Int) < 33)) (fun h2 => ?_) (fun h2 => ?_)
 have h2p := of_decide_eq_true h2
 have hlt : k < 33 := by simp at h2; omega
 obtain ⟨x0,hx0⟩ : ∃ x,l[k]? = some x := ⟨_,List.getElem?_eq_getElem (by omega)⟩
 refine kK <| kS <| aZ <| kG <| fh 2 [1,3,4,14,15] [(14,.v (.slice (some ⟨g1,0,none⟩) 33 33)),(15,aI (k : Int))] (.pointer (some ⟨g1,k * 1,none⟩)) rfl (fun _ _ _ ww hr => dF (kd := .i64) (T := 125) (e := 3) (K := 1) (g := g1) (N := 33) (cap := 33) k rfl hr.1 rfl rfl (by kernel_rfl) (by kernel_rfl) (by kernel_rfl) hlt ww) ?_
 refine xl_hs 0 [1,3,4,16] ⟨[(1,.p 0 0),(3,.v (.slice (some ⟨g1,0,none⟩) 33 33)),(4,aI (k : Int)),(16,.v (.pointer (some ⟨g1,k * 1,none⟩)))],[⟨41,ah r (.slice Arh r.held.length Crh)⟩],[],[ap w.heap.size 3 1 (.slice (some ⟨g1,0,none⟩) 33 33) (l.map aq),c7 (.slice Arh r.held.length Crh) 2 (r.held.map pC)]⟩ (by kernel_rfl) rfl (by kernel_rfl) rfl (by kernel_rfl) (HSg.hs (i0 (g := g1) (B := w.heap.size) (e := 3) (K := 1) (N := 33) (cap := 33) (rs := (l.map aq)) (rs' := (l.set k (-1)).map aq) (v := (iI (-1))) (i := 0) (off := k * 1) k 0 [iI x0] (row' := [iI (-1)]) rfl rfl (by kernel_rfl) rfl (by kernel_rfl) (by kernel_rfl) (by kernel_rfl) (by kernel_rfl) (Nat.le_refl _) (by simp only [List.getElem?_map,hx0]; rfl) (by kernel_rfl) rfl (by rw [List.map_set]; rfl))) ?_
 refine aR [1,3,4] [] <| kG <| cA 3 [1,3,4] [(4,aI (K6.wrap ((k : Int) + 1)))] <| cJ [1,3,4] [(4,aI (K6.wrap ((k : Int) + 1)))] [(4,aI ((k : Int) + 1))] (by rw [show (K6.wrap ((k : Int) + 1)) = ((k : Int) + 1) from ab (by omega) (by omega)]) (by kernel_rfl) ?_
 refine aR [1,3,4] [] ?_
 exact ⟨⟨(k + 1,l.set k (-1)),⟨hlt,(by rw [List.length_set]; exact hl),init_step HK (by omega)⟩⟩,kF 1 0 [1,3,4],by show (fun (k : Nat) (l : List Int) => 33 - k) (k + 1) (l.set k (-1)) < 33 - k; (dsimp only; omega)⟩
 have h2p := of_decide_eq_false h2
 have hk33 : k = 33 := by simp at h2; omega
 have hl1 : l = List.replicate 33 (-1) := by rw [hk33,← hl,List.take_length] at HK; rw [HK,hl]
 refine cq <| kS <| kQ <| aR [1,3,5] [(5,aI 0)] ?_
 refine aZ <| cz (α := {x : Nat × List Int // (fun (i : Nat) (l2 : List Int) => i ≤ r.held.length ∧ l2.length = 33 ∧ et l r.held = et l2 (r.held.drop i)) x.1 x.2}) (fun x => (fun (i : Nat) (l2 : List Int) => (⟨[(1,.p 0 0),(3,.v (.slice (some ⟨g1,0,none⟩) 33 33)),(5,aI (i : Int))],[⟨41,ah r (.slice Arh r.held.length Crh)⟩],[],[ap w.heap.size 3 1 (.slice (some ⟨g1,0,none⟩) 33 33) (l2.map aq),c7 (.slice Arh r.held.length Crh) 2 (r.held.map pC)]⟩ : St)) x.1.1 x.1.2) (fun x => (fun (i : Nat) (l2 : List Int) => r.held.length - i) x.1.1 x.1.2) ⟨(0,l),⟨Nat.zero_le _,hl,rfl⟩⟩ (ei [0,1] <| kF 1 0 [1,3,5]) ?_
 rintro ⟨⟨i,l2⟩,hi,hl2,H2⟩
 try dsimp only
 try dsimp only at hi hl2 H2
 refine kS <| kQ <| aR [1,3,5,21] [(21,aB (decide ((i : Int) < ((r.held.length : Nat) : Int))))] <| kC (decide ((i : Int) < ((r.held.length : Nat) : Int))) (fun h3 => ?_) (fun h3 => ?_)
 have h3p := of_decide_eq_true h3
 have hlt2 : i < r.held.length := by simpa using h3
 obtain ⟨pp,hx⟩ : ∃ p,r.held[i]? = some p := ⟨_,List.getElem?_eq_getElem hlt2⟩
 have hin := hheld pp (List.mem_of_getElem? hx)
 refine kK <| kS <| aZ <| kQ <| aR [1,3,5,6] [(6,aI 0)] ?_
 refine aZ <| cz (α := {x : Nat × List Int // (fun (q : Nat) (l3 : List Int) => q ≤ pp.text.size ∧ l3.length = 33 ∧ l3 = fK l2 pp.off.toNat pp.text q) x.1 x.2}) (fun x => (fun (q : Nat) (l3 : List Int) => (⟨[(1,.p 0 0),(3,.v (.slice (some ⟨g1,0,none⟩) 33 33)),(5,aI (i : Int)),(6,aI (q : Int))],[⟨41,ah r (.slice Arh r.held.length Crh)⟩],[],[ap w.heap.size 3 1 (.slice (some ⟨g1,0,none⟩) 33 33) (l3.map aq),c7 (.slice Arh r.held.length Crh) 2 (r.held.map pC)]⟩ : St)) x.1.1 x.1.2) (fun x => (fun (q : Nat) (l3 : List Int) => pp.text.size - q) x.1.1 x.1.2) ⟨(0,l2),⟨Nat.zero_le _,hl2,rfl⟩⟩ (ei [0,1] <| kF 1 0 [1,3,5,6]) ?_
 rintro ⟨⟨q,l3⟩,hq,hl3,H3⟩
 try dsimp only
 try dsimp only at hq hl3 H3
 refine kS <| kQ <| eM (kd := .i64) (T := 39) (e := 85) (K := 2) 4 [1,3,5,6,24,26,27] [(24,aI (q : Int)),(26,.v (.slice Arh r.held.length Crh)),(27,aI (i : Int))] i [iI pp.off,.string pp.text] (c7 (.slice Arh r.held.length Crh) 2 (r.held.map pC)) (by kernel_rfl) rfl (by kernel_rfl) rfl rfl (by kernel_rfl) (by kernel_rfl) (by kernel_rfl) (by kernel_rfl) hlt2 (by simp) (fun w h => h) (fun b h => h) (by simp only [List.getElem?_map,hx]; rfl) ?_
 refine aR [1,3,5,6,32] [(32,aB (decide ((q : Int) < (pp.text.size : Int))))] <| kC (decide ((q : Int) < (pp.text.size : Int))) (fun h4 => ?_) (fun h4 => ?_)
 have h4p := of_decide_eq_true h4
 have hlt3 : q < pp.text.size := by simpa using h4
 have hbr := fN pp.text q
 obtain ⟨x3,hx3⟩ : ∃ x,l3[pp.off.toNat + q]? = some x := ⟨_,List.getElem?_eq_getElem (by omega)⟩
 refine kK <| kS <| aZ <| xw_wk (wkf (s' := ⟨[(1,.p 0 0),(3,.v (.slice (some ⟨g1,0,none⟩) 33 33)),(5,aI (i : Int)),(6,aI (q : Int)),(32,aB (decide ((q : Int) < (pp.text.size : Int))))],[⟨41,ah r (.slice Arh r.held.length Crh)⟩],[],[ap w.heap.size 3 1 (.slice (some ⟨g1,0,none⟩) 33 33) (l3.map aq),c7 (.slice Arh r.held.length Crh) 2 (r.held.map pC)]⟩) 1 0 [1,3,5,6,32] (by kernel_rfl)) ?_
 refine fy <| gn (K := 2) (j := i) [iI pp.off,.string pp.text] (c7 (.slice Arh r.held.length Crh) 2 (r.held.map pC)) (fun _ _ h => h) (by simp) (fun w h => h) (fun b h => h) (by simp only [List.getElem?_map,hx]; rfl) (fun bq5 offq5 hAq5 => ?_)
 refine xws_know (ψ := bq5 ≠ g1) (fun _ _ _ _ hr => row_ne hr 0 1 rfl rfl rfl (by decide) hAq5 i [iI pp.off,.string pp.text] (by simp only [List.getElem?_map,hx]; rfl)) (fun hneq5g1 => ?_)
 refine gn (K := 2) (j := i) [iI pp.off,.string pp.text] (c7 (.slice Arh r.held.length Crh) 2 (r.held.map pC)) (fun _ _ h => h) (by simp) (fun w h => h) (fun b h => h) (by simp only [List.getElem?_map,hx]; rfl) (fun bq6 offq6 hAq6 => ?_)
 refine xws_know (ψ := bq6 ≠ g1) (fun _ _ _ _ hr => row_ne hr 0 1 rfl rfl rfl (by decide) hAq6 i [iI pp.off,.string pp.text] (by simp only [List.getElem?_map,hx]; rfl)) (fun hneq6g1 => ?_)
 refine e9 [] (by kernel_rfl) (fun ρ σ hq7 => ?_)
 refine ca [0,1,2,3,7,9,10,11,15] [50,46,45,42,38,37,35,1,3,5,6] 11 [(50,aI (q : Int)),(46,aI (i : Int)),(45,.v (.slice Arh r.held.length Crh)),(42,aI (q : Int)),(38,aI (i : Int)),(37,.v (.slice Arh r.held.length Crh)),(35,.v (.slice (some ⟨g1,0,none⟩) 33 33)),(1,.p 0 0),(3,.v (.slice (some ⟨g1,0,none⟩) 33 33)),(5,aI (i : Int)),(6,aI (q : Int))] <| fZ (kd := .i64) (T := 39) (e := 85) (K := 2) (j := i) (A := Arh) (len := r.held.length) (cap := Crh) 4 0 _ rfl (by kernel_rfl) (by kernel_rfl) (by kernel_rfl) (fun _ _ h => h) (by kernel_rfl) rfl rfl (by kernel_rfl) (by kernel_rfl) (by kernel_rfl) (by kernel_rfl) hlt2 hAq5 hq7.1.2 (by kernel_rfl) rfl ?_
 refine ca [5,6,8] [43,50,46,45,35,1,3,5,6] 7 [(43,aI (K6.wrap (pp.off + (q : Int)))),(50,aI (q : Int)),(46,aI (i : Int)),(45,.v (.slice Arh r.held.length Crh)),(35,.v (.slice (some ⟨g1,0,none⟩) 33 33)),(1,.p 0 0),(3,.v (.slice (some ⟨g1,0,none⟩) 33 33)),(5,aI (i : Int)),(6,aI (q : Int))] <| gx [43,50,46,45,35,1,3,5,6] [(43,aI (K6.wrap (pp.off + (q : Int))))] [(43,aI ((pp.off.toNat + q : Nat) : Int))] (by rw [show (K6.wrap (pp.off + (q : Int))) = ((pp.off.toNat + q : Nat) : Int) from by rw [ab (by omega) (by omega)]; omega]) (by kernel_rfl) ?_
 refine fZ (kd := .i64) (T := 39) (e := 85) (K := 2) (j := i) (A := Arh) (len := r.held.length) (cap := Crh) 12 1 _ rfl (by kernel_rfl) (by kernel_rfl) (by kernel_rfl) (fun _ _ h => h) (by kernel_rfl) rfl rfl (by kernel_rfl) (by kernel_rfl) (by kernel_rfl) (by kernel_rfl) hlt2 hAq6 hq7.2 (by kernel_rfl) rfl ?_
 refine ca [13,14] [49,43,50,35,1,3,5,6] 4 [(49,.v (.string pp.text)),(43,aI ((pp.off.toNat + q : Nat) : Int)),(50,aI (q : Int)),(35,.v (.slice (some ⟨g1,0,none⟩) 33 33)),(1,.p 0 0),(3,.v (.slice (some ⟨g1,0,none⟩) 33 33)),(5,aI (i : Int)),(6,aI (q : Int))] <| kX 16 (.int .u8 (ba pp.text q)) rfl (fun _ _ ww hA => act_tix (kd := .i64) (t := pp.text) q hA rfl rfl (by kernel_rfl) (by kernel_rfl) hlt3 ww) ?_
 refine ca [17] [52,43,35,1,3,5,6] 2 [(52,aI (K6.wrap (ba pp.text q))),(43,aI ((pp.off.toNat + q : Nat) : Int)),(35,.v (.slice (some ⟨g1,0,none⟩) 33 33)),(1,.p 0 0),(3,.v (.slice (some ⟨g1,0,none⟩) 33 33)),(5,aI (i : Int)),(6,aI (q : Int))] <| gx [52,43,35,1,3,5,6] [(52,aI (K6.wrap (ba pp.text q)))] [(52,aI (ba pp.text q))] (by rw [show (K6.wrap (ba pp.text q)) = (ba pp.text q) from ab (by omega) (by omega)]) (by kernel_rfl) ?_
 refine kX 18 (.pointer (some ⟨g1,(pp.off.toNat + q) * 1,none⟩)) rfl (fun _ _ ww hA => dF (kd := .i64) (T := 125) (e := 3) (K := 1) (g := g1) (N := 33) (cap := 33) (pp.off.toNat + q) rfl hA rfl rfl (by kernel_rfl) (by kernel_rfl) (by kernel_rfl) (by omega) ww) ?_
 refine kA [19] <| xs_hsG 19 g1 rfl (by kernel_rfl) (by kernel_rfl) (by kernel_rfl) (ax ar) (fun kk rr hk => match kk,hk with | 0,_ => .inr (fun h => hneq5g1 ((congrArg Prod.fst hq7.1.2).symm.trans h)) | 1,_ => .inr (fun h => hneq6g1 ((congrArg Prod.fst hq7.2).symm.trans h)) | nn + 2,hk => (by simp [addRow] at hk)) (i0 (g := g1) (B := w.heap.size) (e := 3) (K := 1) (N := 33) (cap := 33) (rs := (l3.map aq)) (rs' := (l3.set (pp.off.toNat + q) (ba pp.text q)).map aq) (v := (iI (ba pp.text q))) (i := 0) (off := (pp.off.toNat + q) * 1) (pp.off.toNat + q) 0 [iI x3] (row' := [iI (ba pp.text q)]) rfl rfl (by kernel_rfl) rfl (by kernel_rfl) (by kernel_rfl) (by kernel_rfl) (by kernel_rfl) (Nat.le_refl _) (by simp only [List.getElem?_map,hx3]; rfl) (by kernel_rfl) rfl (by rw [List.map_set]; rfl)) ?_
 refine kZ <| kG <| cA 3 [1,3,5,6] [(6,aI (K6.wrap ((q : Int) + 1)))] <| cJ [1,3,5,6] [(6,aI (K6.wrap ((q : Int) + 1)))] [(6,aI ((q : Int) + 1))] (by rw [show (K6.wrap ((q : Int) + 1)) = ((q : Int) + 1) from ab (by omega) (by omega)]) (by kernel_rfl) ?_
 refine aR [1,3,5,6] [] ?_
 exact ⟨⟨(q + 1,(l3.set (pp.off.toNat + q) (ba pp.text q))),⟨hlt3,(by rw [List.length_set]; exact hl3),(by rw [H3]; rfl)⟩⟩,kF 1 0 [1,3,5,6],by show (fun (q : Nat) (l3 : List Int) => pp.text.size - q) (q + 1) (l3.set (pp.off.toNat + q) (ba pp.text q)) < pp.text.size - q; (dsimp only; omega)⟩
 have h4p := of_decide_eq_false h4
 have hq3 : q = pp.text.size := by simp at h4; omega
 refine cq <| kG <| cA 3 [1,3,5] [(5,aI (K6.wrap ((i : Int) + 1)))] <| cJ [1,3,5] [(5,aI (K6.wrap ((i : Int) + 1)))] [(5,aI ((i : Int) + 1))] (by rw [show (K6.wrap ((i : Int) + 1)) = ((i : Int) + 1) from ab (by omega) (by omega)]) (by kernel_rfl) ?_
 refine aJ [1,3,5] [(1,.p 0 0),(3,.v (.slice (some ⟨g1,0,none⟩) 33 33)),(5,aI ((i : Int) + 1))] ?_
 exact ⟨⟨(i + 1,l3),⟨hlt2,hl3,(by rw [H2,dQ hx,et,← hq3,← H3])⟩⟩,kF 1 0 [1,3,5],by show (fun (i : Nat) (l2 : List Int) => r.held.length - i) (i + 1) l3 < r.held.length - i; (dsimp only; omega)⟩
 have h3p := of_decide_eq_false h3
 have hi2 : i = r.held.length := by simp at h3; omega
 rw [hi2,List.drop_length] at H2; simp only [et] at H2
 refine cq <| kQ <| aJ [2] [(2,.v (.slice (some ⟨g1,0,none⟩) 33 33))] <| kR ?_
 have hmod : aL r = l2 := by (unfold aL; rw [← hl1]; exact H2)
 exact ⟨[.slice (some ⟨g1,0,none⟩) 33 33],by kernel_rfl,fun w' hb hf ha => by rw [hmod,hl2]; exact im ((((some ⟨g1,0,none⟩) : Option Addr),33)) rfl rfl (pW (hf _ m0) hB) hb⟩
theorem yl18Pieces_c (l : List Int) (lV : Value) (m : Nat) (w : World) (hl_lV : Sl w lV 1 (l.map aq)) (hm : m ≤ l.length) (hll : l.length ≤ 64) (hby : ∀ x ∈ l, x ≤ 255) (B : Nat) (hB : B ≤ w.heap.size) : Calls Tryz.prog 124 #[lV, iI (m : Int)] w fun e w' => XRs w w' e (α := Option Addr × Nat) (fun y => .slice y.1 ((fl [] 0 (l.drop m)).length) y.2) (fun y => [ap B 85 2 (.slice y.1 ((fl [] 0 (l.drop m)).length) y.2) ((fl [] 0 (l.drop m)).map pC)]) := by
 obtain ⟨Al,Cl,hvl⟩ := hl_lV.form
 rw [List.length_map] at hvl; subst hvl
 have hnl := hl_lV.len; rw [List.length_map] at hnl
 have hql := Sl.capLe hl_lV
 refine ck (args := [.slice Al l.length Cl,iI (m : Int)]) (fn := Tryz.f124) [c7 (.slice Al l.length Cl) 1 (l.map aq)] Tryz.func124 rfl Tryz.ntmps124 rfl (by simp only [List.mem_cons,List.not_mem_nil,or_false,forall_eq_or_imp,forall_eq]; exact ⟨rfl,hl_lV⟩) ?_
 refine kQ <| c8 [0,1] ⟨[(0,.v (.slice Al l.length Cl)),(1,aI (m : Int))],[],[],[c7 (.slice Al l.length Cl) 1 (l.map aq)]⟩ <| kQ <| kHS 0 [0,1] [(0,.v (.slice Al l.length Cl)),(1,aI (m : Int))] rfl (bi (e := 85) (K := 2) (bytes := 24) [] (rs := ([] : List Pce).map pC) rfl rfl) ?_
 intro g1
 refine aJ [0,1,5] [(0,.v (.slice Al l.length Cl)),(1,aI (m : Int)),(5,.v (.slice (some ⟨g1,0,none⟩) 0 0))] <| kS <| kQ <| aJ [0,1,5,6] [(0,.v (.slice Al l.length Cl)),(1,aI (m : Int)),(5,.v (.slice (some ⟨g1,0,none⟩) 0 0)),(6,aI (m : Int))] ?_
 refine aZ <| cz (α := {x : Nat × List Pce × Option Addr × Nat × Nat // (fun (i : Nat) (out : List Pce) (A1 : Option Addr) (c1 : Nat) (n : Nat) => (m ≤ i ∧ i ≤ l.length) ∧ fl [] 0 (l.drop m) = fl out (i - m) (l.drop i) ∧ (∀ p ∈ out,0 ≤ p.off ∧ p.off + (p.text.size : Int) ≤ ((i - m : Nat) : Int)) ∧ out.length = n ∧ n ≤ i) x.1 x.2.1 x.2.2.1 x.2.2.2.1 x.2.2.2.2}) (fun x => (fun (i : Nat) (out : List Pce) (A1 : Option Addr) (c1 : Nat) (n : Nat) => (⟨[(0,.v (.slice Al l.length Cl)),(1,aI (m : Int)),(5,.v (.slice A1 n c1)),(6,aI (i : Int))],[],[],[ap w.heap.size 85 2 (.slice A1 n c1) (out.map pC),c7 (.slice Al l.length Cl) 1 (l.map aq)]⟩ : St)) x.1.1 x.1.2.1 x.1.2.2.1 x.1.2.2.2.1 x.1.2.2.2.2) (fun x => (fun (i : Nat) (out : List Pce) (A1 : Option Addr) (c1 : Nat) (n : Nat) => l.length - i) x.1.1 x.1.2.1 x.1.2.2.1 x.1.2.2.2.1 x.1.2.2.2.2) ⟨(m,([] : List Pce),(some ⟨g1,0,none⟩),0,0),⟨⟨Nat.le_refl _,hm⟩,(by rw [Nat.sub_self]),(by simp),rfl,Nat.zero_le _⟩⟩ (ei [0,1] <| kF 0 0 [0,1,5,6]) ?_
 rintro ⟨⟨i,out,A1,c1,n⟩,hi,HP,hbd,hn,hni⟩
 try dsimp only
 try dsimp only at hi HP hbd hn hni
 refine kS <| kQ <| aJ [0,1,5,6,13] [(0,.v (.slice Al l.length Cl)),(1,aI (m : Int)),(5,.v (.slice A1 n c1)),(6,aI (i : Int)),(13,aB (decide ((i : Int) < ((l.length : Nat) : Int))))] <| kC (decide ((i : Int) < ((l.length : Nat) : Int))) (fun h2 => ?_) (fun h2 => ?_)
 have h2p := of_decide_eq_true h2
 have hlt : i < l.length := by simpa using h2
 obtain ⟨x,hx⟩ : ∃ x,l[i]? = some x := ⟨_,List.getElem?_eq_getElem hlt⟩
 have hx255 := hby x (List.mem_of_getElem? hx)
 have hps := pcs_step (out := out) hx hi.1
 refine xw_know (φ := ∃ b off,Al = some ⟨b,off,none⟩) (fun _ _ _ _ hr => know_sl hr (K := 1) (rs := l.map aq) 1 rfl (j := i) (row := [iI x]) (by simp only [List.getElem?_map,hx]; rfl)) ?_
 rintro ⟨bb,ob,hbb⟩
 refine kK <| kS <| aZ <| kS <| kQ <| i8 2 [0,1,5,6,16,17] [(0,.v (.slice Al l.length Cl)),(1,aI (m : Int)),(5,.v (.slice A1 n c1)),(6,aI (i : Int)),(16,.v (.slice Al l.length Cl)),(17,aI (i : Int))] (.pointer (some ⟨bb,ob + i * 1,none⟩)) rfl (fun _ _ _ ww hr => act_ixO (kd := .i64) (T := 125) (e := 3) (K := 1) (b := bb) (off := ob) (N := l.length) (cap := Cl) i hbb hr.1 rfl rfl (by kernel_rfl) (by kernel_rfl) (by kernel_rfl) hlt ww) ?_
 refine i8 0 [0,1,5,6,18] [(0,.v (.slice Al l.length Cl)),(1,aI (m : Int)),(5,.v (.slice A1 n c1)),(6,aI (i : Int)),(18,.v (.pointer (some ⟨bb,ob + i * 1,none⟩)))] (iI x) rfl (fun _ _ _ ww hr => ldS_run (j := i) (row := [iI x]) (c7 (.slice Al l.length Cl) 1 (l.map aq)) hr rfl (by kernel_rfl) (by simp) (by simp only [List.getElem?_map,hx]; rfl) (by kernel_rfl) hbb rfl) ?_
 refine aJ [0,1,5,6,20] [(0,.v (.slice Al l.length Cl)),(1,aI (m : Int)),(5,.v (.slice A1 n c1)),(6,aI (i : Int)),(20,aB (decide (x < 0)))] <| kC (decide (x < 0)) (fun h3 => ?_) (fun h3 => ?_)
 have h3p := of_decide_eq_true h3
 refine cq <| kG <| cR 3 [0,1,5,6] [(0,.v (.slice Al l.length Cl)),(1,aI (m : Int)),(5,.v (.slice A1 n c1)),(6,aI (K6.wrap ((i : Int) + 1)))] <| dg (t' := [(0,.v (.slice Al l.length Cl)),(1,aI (m : Int)),(5,.v (.slice A1 n c1)),(6,aI ((i : Int) + 1))]) (by rw [show (K6.wrap ((i : Int) + 1)) = ((i : Int) + 1) from ab (by omega) (by omega)]) ?_
 refine aJ [0,1,5,6] [(0,.v (.slice Al l.length Cl)),(1,aI (m : Int)),(5,.v (.slice A1 n c1)),(6,aI ((i : Int) + 1))] ?_
 exact ⟨⟨(i + 1,out,A1,c1,n),⟨(by (try dsimp only); omega),(by rw [HP,hps,if_pos (by omega)]),(fun q hq => by have := hbd q hq; (try dsimp only); omega),hn,(by (try dsimp only); omega)⟩⟩,kF 0 0 [0,1,5,6],by show (fun (i : Nat) (out : List Pce) (A1 : Option Addr) (c1 : Nat) (n : Nat) => l.length - i) (i + 1) out A1 c1 n < l.length - i; (dsimp only; omega)⟩
 have h3p := of_decide_eq_false h3
 have hx0 : 0 ≤ x := by simp at h3; omega
 have hb1 : (am [x]).size = 1 := gL [x]
 obtain ⟨p,hp⟩ : ∃ p : Pce,0 < n → out[n - 1]? = some p := if h : 0 < n then ⟨out[n - 1]'(by omega),fun _ => List.getElem?_eq_getElem _⟩ else ⟨⟨0,⟨#[]⟩⟩,fun h' => absurd h' h⟩
 refine xw_know (φ := ∃ g,0 < n → A1 = some ⟨g,0,none⟩) (fun _ _ _ _ hr => know_row hr (K := 2) (rs := out.map pC) 0 rfl (j := n - 1) (row := [iI p.off,.string p.text]) (fun hpos => by simp only [List.getElem?_map,hp hpos]; rfl)) ?_
 rintro ⟨gg,hgg⟩
 refine kK <| kQ <| aJ [0,1,5,6,7] [(0,.v (.slice Al l.length Cl)),(1,aI (m : Int)),(5,.v (.slice A1 n c1)),(6,aI (i : Int)),(7,aI ((n : Nat) : Int))] <| kS <| cf (α := {zz : Bool // (fun (bq : Bool) => (bq = true ↔ (0 < n ∧ p.off + (p.text.size : Int) = ((i - m : Nat) : Int)))) zz}) (fun zz => (fun (bq : Bool) => (⟨[(0,.v (.slice Al l.length Cl)),(1,aI (m : Int)),(5,.v (.slice A1 n c1)),(6,aI (i : Int)),(7,aI ((n : Nat) : Int)),(44,aB bq)],[],[],[ap w.heap.size 85 2 (.slice A1 n c1) (out.map pC),c7 (.slice Al l.length Cl) 1 (l.map aq)]⟩ : St)) zz.1) ?_ ?_
 refine bc [] (by kernel_rfl) (fun ρ σ => ?_)
 refine ca [0,1,2] [25,0,1,5,6,7] 19 [(25,aB (decide (((n : Nat) : Int) > 0))),(0,.v (.slice Al l.length Cl)),(1,aI (m : Int)),(5,.v (.slice A1 n c1)),(6,aI (i : Int)),(7,aI ((n : Nat) : Int))] <| kY 25 (decide (((n : Nat) : Int) > 0)) (fun h4 => ?_) (fun h4 => ?_)
 have h4p := of_decide_eq_true h4
 have hpos : 0 < n := by simp at h4; omega
 have hpb := hbd p (List.mem_of_getElem? (hp hpos))
 refine ca [3,4,5,9,10,11,17,18,19] [42,34,32,28,26,25,0,1,5,6,7] 10 [(42,aI (K6.wrap ((i : Int) - (m : Int)))),(34,aI (K6.wrap (((n : Nat) : Int) - 1))),(32,.v (.slice A1 n c1)),(28,aI (K6.wrap (((n : Nat) : Int) - 1))),(26,.v (.slice A1 n c1)),(25,aB true),(0,.v (.slice Al l.length Cl)),(1,aI (m : Int)),(5,.v (.slice A1 n c1)),(6,aI (i : Int)),(7,aI ((n : Nat) : Int))] <| fb (t := [(42,aI (K6.wrap ((i : Int) - (m : Int)))),(34,aI (K6.wrap (((n : Nat) : Int) - 1))),(32,.v (.slice A1 n c1)),(28,aI (K6.wrap (((n : Nat) : Int) - 1))),(26,.v (.slice A1 n c1)),(25,aB true),(0,.v (.slice Al l.length Cl)),(1,aI (m : Int)),(5,.v (.slice A1 n c1)),(6,aI (i : Int)),(7,aI ((n : Nat) : Int))]) (t' := [(42,aI ((i - m : Nat) : Int)),(34,aI ((n - 1 : Nat) : Int)),(32,.v (.slice A1 n c1)),(28,aI ((n - 1 : Nat) : Int)),(26,.v (.slice A1 n c1)),(25,aB true),(0,.v (.slice Al l.length Cl)),(1,aI (m : Int)),(5,.v (.slice A1 n c1)),(6,aI (i : Int)),(7,aI ((n : Nat) : Int))]) (by rw [show (K6.wrap (((n : Nat) : Int) - 1)) = ((n - 1 : Nat) : Int) from by rw [ab (by omega) (by omega)]; omega,show (K6.wrap ((i : Int) - (m : Int))) = ((i - m : Nat) : Int) from by rw [ab (by omega) (by omega)]; omega]) ?_
 refine kX 6 (.pointer (some ⟨gg,(n - 1) * 2,none⟩)) rfl (fun _ _ ww hA => dF (kd := .i64) (T := 39) (e := 85) (K := 2) (g := gg) (N := n) (cap := c1) (n - 1) (hgg hpos) hA rfl rfl (by kernel_rfl) (by kernel_rfl) (by kernel_rfl) (by omega) ww) ?_
 refine kX 7 (.pointer (some ⟨gg,(n - 1) * 2,none⟩)) rfl (fun _ _ ww hA => dL (sz := 1) (b := gg) (m := (n - 1) * 2) hA rfl Tryz.underlying85 rfl (by kernel_rfl) rfl (by kernel_rfl) rfl) ?_
 refine kX 12 (.pointer (some ⟨gg,(n - 1) * 2,none⟩)) rfl (fun _ _ ww hA => dF (kd := .i64) (T := 39) (e := 85) (K := 2) (g := gg) (N := n) (cap := c1) (n - 1) (hgg hpos) hA rfl rfl (by kernel_rfl) (by kernel_rfl) (by kernel_rfl) (by omega) ww) ?_
 refine kX 13 (.pointer (some ⟨gg,(n - 1) * 2 + 1,none⟩)) rfl (fun _ _ ww hA => dL (sz := 1) (b := gg) (m := (n - 1) * 2) hA rfl Tryz.underlying85 rfl (by kernel_rfl) rfl (by kernel_rfl) rfl) ?_
 refine kA [8,14] ⟨?_,?_⟩
 refine i7 8 (iI p.off) rfl (fun _ _ ww hr => dD (po := 0) (j := (n - 1)) (row := [iI p.off,.string p.text]) (ap w.heap.size 85 2 (.slice A1 n c1) (out.map pC)) hr rfl (by kernel_rfl) (by simp) (by simp only [List.getElem?_map,hp hpos]; rfl) (by kernel_rfl) (hgg hpos) rfl rfl) ?_
 refine kA [14] <| i7 14 (.string p.text) rfl (fun _ _ ww hr => dD (po := 1) (j := (n - 1)) (row := [iI p.off,.string p.text]) (ap w.heap.size 85 2 (.slice A1 n c1) (out.map pC)) hr rfl (by kernel_rfl) (by simp) (by simp only [List.getElem?_map,hp hpos]; rfl) (by kernel_rfl) (hgg hpos) rfl rfl) ?_
 refine ca [15,16,20,21] [44,0,1,5,6,7] 0 [(44,aB ((K6.wrap (p.off + (p.text.size : Int))) == ((i - m : Nat) : Int))),(0,.v (.slice Al l.length Cl)),(1,aI (m : Int)),(5,.v (.slice A1 n c1)),(6,aI (i : Int)),(7,aI ((n : Nat) : Int))] <| fb (t := [(44,aB ((K6.wrap (p.off + (p.text.size : Int))) == ((i - m : Nat) : Int))),(0,.v (.slice Al l.length Cl)),(1,aI (m : Int)),(5,.v (.slice A1 n c1)),(6,aI (i : Int)),(7,aI ((n : Nat) : Int))]) (t' := [(44,aB ((p.off + (p.text.size : Int)) == ((i - m : Nat) : Int))),(0,.v (.slice Al l.length Cl)),(1,aI (m : Int)),(5,.v (.slice A1 n c1)),(6,aI (i : Int)),(7,aI ((n : Nat) : Int))]) (by rw [show (K6.wrap (p.off + (p.text.size : Int))) = (p.off + (p.text.size : Int)) from ab (by omega) (by omega)]) ?_
 refine kZ ?_
 exact ⟨⟨((p.off + (p.text.size : Int)) == ((i - m : Nat) : Int)),⟨fun h => ⟨hpos,eq_of_beq h⟩,fun h => beq_iff_eq.2 h.2⟩⟩,kF 0 0 [0,1,5,6,7,44]⟩
 refine i7 14 (.string p.text) rfl (fun _ _ ww hr => dD (po := 1) (j := (n - 1)) (row := [iI p.off,.string p.text]) (ap w.heap.size 85 2 (.slice A1 n c1) (out.map pC)) hr rfl (by kernel_rfl) (by simp) (by simp only [List.getElem?_map,hp hpos]; rfl) (by kernel_rfl) (hgg hpos) rfl rfl) ?_
 refine ca [15] [38,30,42,25,0,1,5,6,7] 4 [(38,aI (p.text.size : Int)),(30,.v (.pointer (some ⟨gg,(n - 1) * 2,none⟩))),(42,aI ((i - m : Nat) : Int)),(25,aB true),(0,.v (.slice Al l.length Cl)),(1,aI (m : Int)),(5,.v (.slice A1 n c1)),(6,aI (i : Int)),(7,aI ((n : Nat) : Int))] <| kA [8] <| i7 8 (iI p.off) rfl (fun _ _ ww hr => dD (po := 0) (j := (n - 1)) (row := [iI p.off,.string p.text]) (ap w.heap.size 85 2 (.slice A1 n c1) (out.map pC)) hr rfl (by kernel_rfl) (by simp) (by simp only [List.getElem?_map,hp hpos]; rfl) (by kernel_rfl) (hgg hpos) rfl rfl) ?_
 refine ca [16,20,21] [44,0,1,5,6,7] 0 [(44,aB ((K6.wrap (p.off + (p.text.size : Int))) == ((i - m : Nat) : Int))),(0,.v (.slice Al l.length Cl)),(1,aI (m : Int)),(5,.v (.slice A1 n c1)),(6,aI (i : Int)),(7,aI ((n : Nat) : Int))] <| fb (t := [(44,aB ((K6.wrap (p.off + (p.text.size : Int))) == ((i - m : Nat) : Int))),(0,.v (.slice Al l.length Cl)),(1,aI (m : Int)),(5,.v (.slice A1 n c1)),(6,aI (i : Int)),(7,aI ((n : Nat) : Int))]) (t' := [(44,aB ((p.off + (p.text.size : Int)) == ((i - m : Nat) : Int))),(0,.v (.slice Al l.length Cl)),(1,aI (m : Int)),(5,.v (.slice A1 n c1)),(6,aI (i : Int)),(7,aI ((n : Nat) : Int))]) (by rw [show (K6.wrap (p.off + (p.text.size : Int))) = (p.off + (p.text.size : Int)) from ab (by omega) (by omega)]) ?_
 refine kZ ?_
 exact ⟨⟨((p.off + (p.text.size : Int)) == ((i - m : Nat) : Int)),⟨fun h => ⟨hpos,eq_of_beq h⟩,fun h => beq_iff_eq.2 h.2⟩⟩,kF 0 0 [0,1,5,6,7,44]⟩
 have h4p := of_decide_eq_false h4
 have hn0 : n = 0 := by simp at h4; omega
 refine ca [3,4,5,6,7,8,9,10,11,12,13,14,15,16,17,18,19,20,21] [44,0,1,5,6,7] 0 [(44,aB false),(0,.v (.slice Al l.length Cl)),(1,aI (m : Int)),(5,.v (.slice A1 n c1)),(6,aI (i : Int)),(7,aI ((n : Nat) : Int))] <| kZ ?_
 exact ⟨⟨(false),⟨fun h => (by cases h),fun h => (by omega)⟩⟩,kF 0 0 [0,1,5,6,7,44]⟩
 rintro ⟨bq,hbq⟩
 try dsimp only
 try dsimp only at hbq
 refine kC (bq) (fun h5 => ?_) (fun h5 => ?_)
 obtain ⟨hpos,heq⟩ := hbq.1 h5
 have hpb := hbd p (List.mem_of_getElem? (hp hpos))
 refine fY (α := Nat) (fun y => (fun (g7 : Nat) => (⟨[(0,.v (.slice Al l.length Cl)),(1,aI (m : Int)),(5,.v (.slice A1 n c1)),(6,aI (i : Int))],[],[],[ap w.heap.size 85 2 (.slice A1 n c1) ((out.set (n - 1) ⟨p.off,p.text ++ (am ([x] : List Int))⟩).map pC),ap w.heap.size 5 1 (.slice (some ⟨g7,0,none⟩) 1 1) (([x] : List Int).map bR),c7 (.slice Al l.length Cl) 1 (l.map aq)]⟩ : St)) y) ?_ ?_
 refine bc [] (by kernel_rfl) (fun ρ σ => ?_)
 refine ca [0,1,2,3,4,5,9,10] [55,54,50,48,47,45,0,1,5,6] 12 [(55,aI (i : Int)),(54,.v (.slice Al l.length Cl)),(50,aI (K6.wrap (((n : Nat) : Int) - 1))),(48,.v (.slice A1 n c1)),(47,aI (K6.wrap (((n : Nat) : Int) - 1))),(45,.v (.slice A1 n c1)),(0,.v (.slice Al l.length Cl)),(1,aI (m : Int)),(5,.v (.slice A1 n c1)),(6,aI (i : Int))] <| fb (t := [(55,aI (i : Int)),(54,.v (.slice Al l.length Cl)),(50,aI (K6.wrap (((n : Nat) : Int) - 1))),(48,.v (.slice A1 n c1)),(47,aI (K6.wrap (((n : Nat) : Int) - 1))),(45,.v (.slice A1 n c1)),(0,.v (.slice Al l.length Cl)),(1,aI (m : Int)),(5,.v (.slice A1 n c1)),(6,aI (i : Int))]) (t' := [(55,aI (i : Int)),(54,.v (.slice Al l.length Cl)),(50,aI ((n - 1 : Nat) : Int)),(48,.v (.slice A1 n c1)),(47,aI ((n - 1 : Nat) : Int)),(45,.v (.slice A1 n c1)),(0,.v (.slice Al l.length Cl)),(1,aI (m : Int)),(5,.v (.slice A1 n c1)),(6,aI (i : Int))]) (by rw [show (K6.wrap (((n : Nat) : Int) - 1)) = ((n - 1 : Nat) : Int) from by rw [ab (by omega) (by omega)]; omega]) ?_
 refine kX 6 (.pointer (some ⟨gg,(n - 1) * 2,none⟩)) rfl (fun _ _ ww hA => dF (kd := .i64) (T := 39) (e := 85) (K := 2) (g := gg) (N := n) (cap := c1) (n - 1) (hgg hpos) hA rfl rfl (by kernel_rfl) (by kernel_rfl) (by kernel_rfl) (by omega) ww) ?_
 refine kX 7 (.pointer (some ⟨gg,(n - 1) * 2 + 1,none⟩)) rfl (fun _ _ ww hA => dL (sz := 1) (b := gg) (m := (n - 1) * 2) hA rfl Tryz.underlying85 rfl (by kernel_rfl) rfl (by kernel_rfl) rfl) ?_
 refine kX 11 (.pointer (some ⟨bb,ob + i * 1,none⟩)) rfl (fun _ _ ww hA => act_ixO (kd := .i64) (T := 125) (e := 3) (K := 1) (b := bb) (off := ob) (N := l.length) (cap := Cl) i hbb hA rfl rfl (by kernel_rfl) (by kernel_rfl) (by kernel_rfl) hlt ww) ?_
 refine kA [8,12] ⟨?_,?_⟩
 refine i7 8 (.string p.text) rfl (fun _ _ ww hr => dD (po := 1) (j := (n - 1)) (row := [iI p.off,.string p.text]) (ap w.heap.size 85 2 (.slice A1 n c1) (out.map pC)) hr rfl (by kernel_rfl) (by simp) (by simp only [List.getElem?_map,hp hpos]; rfl) (by kernel_rfl) (hgg hpos) rfl rfl) ?_
 refine kA [12] <| i7 12 (iI x) rfl (fun _ _ ww hr => ldS_run (j := i) (row := [iI x]) (c7 (.slice Al l.length Cl) 1 (l.map aq)) hr rfl (by kernel_rfl) (by simp) (by simp only [List.getElem?_map,hx]; rfl) (by kernel_rfl) hbb rfl) ?_
 refine ca [13] [58,53,47,45,0,1,5,6] 6 [(58,.v (.int .u8 (IntKind.u8.wrap x))),(53,.v (.string p.text)),(47,aI ((n - 1 : Nat) : Int)),(45,.v (.slice A1 n c1)),(0,.v (.slice Al l.length Cl)),(1,aI (m : Int)),(5,.v (.slice A1 n c1)),(6,aI (i : Int))] <| fb (t := [(58,.v (.int .u8 (IntKind.u8.wrap x))),(53,.v (.string p.text)),(47,aI ((n - 1 : Nat) : Int)),(45,.v (.slice A1 n c1)),(0,.v (.slice Al l.length Cl)),(1,aI (m : Int)),(5,.v (.slice A1 n c1)),(6,aI (i : Int))]) (t' := [(58,.v (.int .u8 x)),(53,.v (.string p.text)),(47,aI ((n - 1 : Nat) : Int)),(45,.v (.slice A1 n c1)),(0,.v (.slice Al l.length Cl)),(1,aI (m : Int)),(5,.v (.slice A1 n c1)),(6,aI (i : Int))]) (by rw [show (IntKind.u8.wrap x) = x from u8_id (by omega) (by omega)]) ?_
 refine kA [14] <| gj 14 rfl ar (bi (e := 5) (K := 1) (bytes := 1) [.int .u8 x] (rs := ([x] : List Int).map bR) rfl rfl) ?_
 intro g7
 refine kA [15] <| i7 15 (.string (am ([x] : List Int))) rfl (fun _ _ ww hr => cb (e := 5) ([x] : List Int) hr.1 rfl (by kernel_rfl) (by kernel_rfl) (by kernel_rfl) rfl (aS (hr.2.fact (ap w.heap.size 5 1 (.slice (some ⟨g7,0,none⟩) 1 1) (([x] : List Int).map bR)) (by simp)).1)) ?_
 refine kX 16 (.string (p.text ++ (am ([x] : List Int)))) rfl (fun _ _ ww hA => cj hA rfl (by kernel_rfl) (by kernel_rfl) (gk (by first | omega | (simp only [ByteArray.size_extract]; omega)) ww)) ?_
 refine kX 17 (.pointer (some ⟨gg,(n - 1) * 2,none⟩)) rfl (fun _ _ ww hA => dF (kd := .i64) (T := 39) (e := 85) (K := 2) (g := gg) (N := n) (cap := c1) (n - 1) (hgg hpos) hA rfl rfl (by kernel_rfl) (by kernel_rfl) (by kernel_rfl) (by omega) ww) ?_
 refine kX 18 (.pointer (some ⟨gg,(n - 1) * 2 + 1,none⟩)) rfl (fun _ _ ww hA => dL (sz := 1) (b := gg) (m := (n - 1) * 2) hA rfl Tryz.underlying85 rfl (by kernel_rfl) rfl (by kernel_rfl) rfl) ?_
 refine kA [19] <| xs_hsG 19 gg rfl (by kernel_rfl) (by kernel_rfl) (by kernel_rfl) ar (fun kk rr hk => by simp at hk) (i0 (g := gg) (B := w.heap.size) (e := 85) (K := 2) (N := n) (cap := c1) (rs := (out.map pC)) (rs' := (out.set (n - 1) ⟨p.off,p.text ++ (am ([x] : List Int))⟩).map pC) (v := (.string (p.text ++ (am ([x] : List Int))))) (i := 1) (off := (n - 1) * 2 + 1) (n - 1) 1 [iI p.off,.string p.text] (row' := [iI p.off,.string (p.text ++ (am ([x] : List Int)))]) (hgg hpos) rfl (by kernel_rfl) rfl (by kernel_rfl) (by kernel_rfl) (by kernel_rfl) (by kernel_rfl) (Nat.le_refl _) (by simp only [List.getElem?_map,hp hpos]; rfl) (by kernel_rfl) rfl (by rw [List.map_set]; rfl)) ?_
 refine kZ ?_
 exact ⟨(g7),kF 0 0 [0,1,5,6]⟩
 refine i7 12 (iI x) rfl (fun _ _ ww hr => ldS_run (j := i) (row := [iI x]) (c7 (.slice Al l.length Cl) 1 (l.map aq)) hr rfl (by kernel_rfl) (by simp) (by simp only [List.getElem?_map,hx]; rfl) (by kernel_rfl) hbb rfl) ?_
 refine ca [13] [58,52,47,45,0,1,5,6] 7 [(58,.v (.int .u8 (IntKind.u8.wrap x))),(52,.v (.pointer (some ⟨gg,(n - 1) * 2 + 1,none⟩))),(47,aI ((n - 1 : Nat) : Int)),(45,.v (.slice A1 n c1)),(0,.v (.slice Al l.length Cl)),(1,aI (m : Int)),(5,.v (.slice A1 n c1)),(6,aI (i : Int))] <| fb (t := [(58,.v (.int .u8 (IntKind.u8.wrap x))),(52,.v (.pointer (some ⟨gg,(n - 1) * 2 + 1,none⟩))),(47,aI ((n - 1 : Nat) : Int)),(45,.v (.slice A1 n c1)),(0,.v (.slice Al l.length Cl)),(1,aI (m : Int)),(5,.v (.slice A1 n c1)),(6,aI (i : Int))]) (t' := [(58,.v (.int .u8 x)),(52,.v (.pointer (some ⟨gg,(n - 1) * 2 + 1,none⟩))),(47,aI ((n - 1 : Nat) : Int)),(45,.v (.slice A1 n c1)),(0,.v (.slice Al l.length Cl)),(1,aI (m : Int)),(5,.v (.slice A1 n c1)),(6,aI (i : Int))]) (by rw [show (IntKind.u8.wrap x) = x from u8_id (by omega) (by omega)]) ?_
 refine kA [8,14] ⟨?_,?_⟩
 refine i7 8 (.string p.text) rfl (fun _ _ ww hr => dD (po := 1) (j := (n - 1)) (row := [iI p.off,.string p.text]) (ap w.heap.size 85 2 (.slice A1 n c1) (out.map pC)) hr rfl (by kernel_rfl) (by simp) (by simp only [List.getElem?_map,hp hpos]; rfl) (by kernel_rfl) (hgg hpos) rfl rfl) ?_
 refine kA [14] <| gj 14 rfl ar (bi (e := 5) (K := 1) (bytes := 1) [.int .u8 x] (rs := ([x] : List Int).map bR) rfl rfl) ?_
 intro g10
 refine kA [15] <| i7 15 (.string (am ([x] : List Int))) rfl (fun _ _ ww hr => cb (e := 5) ([x] : List Int) hr.1 rfl (by kernel_rfl) (by kernel_rfl) (by kernel_rfl) rfl (aS (hr.2.fact (ap w.heap.size 5 1 (.slice (some ⟨g10,0,none⟩) 1 1) (([x] : List Int).map bR)) (by simp)).1)) ?_
 refine kX 16 (.string (p.text ++ (am ([x] : List Int)))) rfl (fun _ _ ww hA => cj hA rfl (by kernel_rfl) (by kernel_rfl) (gk (by first | omega | (simp only [ByteArray.size_extract]; omega)) ww)) ?_
 refine kX 17 (.pointer (some ⟨gg,(n - 1) * 2,none⟩)) rfl (fun _ _ ww hA => dF (kd := .i64) (T := 39) (e := 85) (K := 2) (g := gg) (N := n) (cap := c1) (n - 1) (hgg hpos) hA rfl rfl (by kernel_rfl) (by kernel_rfl) (by kernel_rfl) (by omega) ww) ?_
 refine kX 18 (.pointer (some ⟨gg,(n - 1) * 2 + 1,none⟩)) rfl (fun _ _ ww hA => dL (sz := 1) (b := gg) (m := (n - 1) * 2) hA rfl Tryz.underlying85 rfl (by kernel_rfl) rfl (by kernel_rfl) rfl) ?_
 refine kA [19] <| xs_hsG 19 gg rfl (by kernel_rfl) (by kernel_rfl) (by kernel_rfl) ar (fun kk rr hk => by simp at hk) (i0 (g := gg) (B := w.heap.size) (e := 85) (K := 2) (N := n) (cap := c1) (rs := (out.map pC)) (rs' := (out.set (n - 1) ⟨p.off,p.text ++ (am ([x] : List Int))⟩).map pC) (v := (.string (p.text ++ (am ([x] : List Int))))) (i := 1) (off := (n - 1) * 2 + 1) (n - 1) 1 [iI p.off,.string p.text] (row' := [iI p.off,.string (p.text ++ (am ([x] : List Int)))]) (hgg hpos) rfl (by kernel_rfl) rfl (by kernel_rfl) (by kernel_rfl) (by kernel_rfl) (by kernel_rfl) (Nat.le_refl _) (by simp only [List.getElem?_map,hp hpos]; rfl) (by kernel_rfl) rfl (by rw [List.map_set]; rfl)) ?_
 refine kZ ?_
 exact ⟨(g10),kF 0 0 [0,1,5,6]⟩
 refine gj 14 rfl ar (bi (e := 5) (K := 1) (bytes := 1) [.int .u8 x] (rs := ([x] : List Int).map bR) rfl rfl) ?_
 intro g11
 refine kA [8,15] ⟨?_,?_⟩
 refine i7 8 (.string p.text) rfl (fun _ _ ww hr => dD (po := 1) (j := (n - 1)) (row := [iI p.off,.string p.text]) (ap w.heap.size 85 2 (.slice A1 n c1) (out.map pC)) hr rfl (by kernel_rfl) (by simp) (by simp only [List.getElem?_map,hp hpos]; rfl) (by kernel_rfl) (hgg hpos) rfl rfl) ?_
 refine kA [15] <| i7 15 (.string (am ([x] : List Int))) rfl (fun _ _ ww hr => cb (e := 5) ([x] : List Int) hr.1 rfl (by kernel_rfl) (by kernel_rfl) (by kernel_rfl) rfl (aS (hr.2.fact (ap w.heap.size 5 1 (.slice (some ⟨g11,0,none⟩) 1 1) (([x] : List Int).map bR)) (by simp)).1)) ?_
 refine kX 16 (.string (p.text ++ (am ([x] : List Int)))) rfl (fun _ _ ww hA => cj hA rfl (by kernel_rfl) (by kernel_rfl) (gk (by first | omega | (simp only [ByteArray.size_extract]; omega)) ww)) ?_
 refine kX 17 (.pointer (some ⟨gg,(n - 1) * 2,none⟩)) rfl (fun _ _ ww hA => dF (kd := .i64) (T := 39) (e := 85) (K := 2) (g := gg) (N := n) (cap := c1) (n - 1) (hgg hpos) hA rfl rfl (by kernel_rfl) (by kernel_rfl) (by kernel_rfl) (by omega) ww) ?_
 refine kX 18 (.pointer (some ⟨gg,(n - 1) * 2 + 1,none⟩)) rfl (fun _ _ ww hA => dL (sz := 1) (b := gg) (m := (n - 1) * 2) hA rfl Tryz.underlying85 rfl (by kernel_rfl) rfl (by kernel_rfl) rfl) ?_
 refine kA [19] <| xs_hsG 19 gg rfl (by kernel_rfl) (by kernel_rfl) (by kernel_rfl) ar (fun kk rr hk => by simp at hk) (i0 (g := gg) (B := w.heap.size) (e := 85) (K := 2) (N := n) (cap := c1) (rs := (out.map pC)) (rs' := (out.set (n - 1) ⟨p.off,p.text ++ (am ([x] : List Int))⟩).map pC) (v := (.string (p.text ++ (am ([x] : List Int))))) (i := 1) (off := (n - 1) * 2 + 1) (n - 1) 1 [iI p.off,.string p.text] (row' := [iI p.off,.string (p.text ++ (am ([x] : List Int)))]) (hgg hpos) rfl (by kernel_rfl) rfl (by kernel_rfl) (by kernel_rfl) (by kernel_rfl) (by kernel_rfl) (Nat.le_refl _) (by simp only [List.getElem?_map,hp hpos]; rfl) (by kernel_rfl) rfl (by rw [List.map_set]; rfl)) ?_
 refine kZ ?_
 exact ⟨(g11),kF 0 0 [0,1,5,6]⟩
 refine i7 15 (.string (am ([x] : List Int))) rfl (fun _ _ ww hr => cb (e := 5) ([x] : List Int) hr.1 rfl (by kernel_rfl) (by kernel_rfl) (by kernel_rfl) rfl (aS (hr.2.fact (ap w.heap.size 5 1 (.slice (some ⟨g11,0,none⟩) 1 1) (([x] : List Int).map bR)) (by simp)).1)) ?_
 refine kA [8] <| i7 8 (.string p.text) rfl (fun _ _ ww hr => dD (po := 1) (j := (n - 1)) (row := [iI p.off,.string p.text]) (ap w.heap.size 85 2 (.slice A1 n c1) (out.map pC)) hr rfl (by kernel_rfl) (by simp) (by simp only [List.getElem?_map,hp hpos]; rfl) (by kernel_rfl) (hgg hpos) rfl rfl) ?_
 refine kX 16 (.string (p.text ++ (am ([x] : List Int)))) rfl (fun _ _ ww hA => cj hA rfl (by kernel_rfl) (by kernel_rfl) (gk (by first | omega | (simp only [ByteArray.size_extract]; omega)) ww)) ?_
 refine kX 17 (.pointer (some ⟨gg,(n - 1) * 2,none⟩)) rfl (fun _ _ ww hA => dF (kd := .i64) (T := 39) (e := 85) (K := 2) (g := gg) (N := n) (cap := c1) (n - 1) (hgg hpos) hA rfl rfl (by kernel_rfl) (by kernel_rfl) (by kernel_rfl) (by omega) ww) ?_
 refine kX 18 (.pointer (some ⟨gg,(n - 1) * 2 + 1,none⟩)) rfl (fun _ _ ww hA => dL (sz := 1) (b := gg) (m := (n - 1) * 2) hA rfl Tryz.underlying85 rfl (by kernel_rfl) rfl (by kernel_rfl) rfl) ?_
 refine kA [19] <| xs_hsG 19 gg rfl (by kernel_rfl) (by kernel_rfl) (by kernel_rfl) ar (fun kk rr hk => by simp at hk) (i0 (g := gg) (B := w.heap.size) (e := 85) (K := 2) (N := n) (cap := c1) (rs := (out.map pC)) (rs' := (out.set (n - 1) ⟨p.off,p.text ++ (am ([x] : List Int))⟩).map pC) (v := (.string (p.text ++ (am ([x] : List Int))))) (i := 1) (off := (n - 1) * 2 + 1) (n - 1) 1 [iI p.off,.string p.text] (row' := [iI p.off,.string (p.text ++ (am ([x] : List Int)))]) (hgg hpos) rfl (by kernel_rfl) rfl (by kernel_rfl) (by kernel_rfl) (by kernel_rfl) (by kernel_rfl) (Nat.le_refl _) (by simp only [List.getElem?_map,hp hpos]; rfl) (by kernel_rfl) rfl (by rw [List.map_set]; rfl)) ?_
 refine kZ ?_
 exact ⟨(g11),kF 0 0 [0,1,5,6]⟩
 intro g7
 refine kG <| kRF 3 [0,1,5,6] ⟨[(0,.v (.slice Al l.length Cl)),(1,aI (m : Int)),(5,.v (.slice A1 n c1)),(6,aI (K6.wrap ((i : Int) + 1)))],[],[],[ap w.heap.size 85 2 (.slice A1 n c1) ((out.set (n - 1) ⟨p.off,p.text ++ (am ([x] : List Int))⟩).map pC),ap w.heap.size 5 1 (.slice (some ⟨g7,0,none⟩) 1 1) (([x] : List Int).map bR),c7 (.slice Al l.length Cl) 1 (l.map aq)]⟩ <| dg (t' := [(0,.v (.slice Al l.length Cl)),(1,aI (m : Int)),(5,.v (.slice A1 n c1)),(6,aI ((i : Int) + 1))]) (by rw [show (K6.wrap ((i : Int) + 1)) = ((i : Int) + 1) from ab (by omega) (by omega)]) ?_
 refine aJ [0,1,5,6] [(0,.v (.slice Al l.length Cl)),(1,aI (m : Int)),(5,.v (.slice A1 n c1)),(6,aI ((i : Int) + 1))] ?_
 have hadd : dP out (i - m) x = (out.set (n - 1) ⟨p.off,p.text ++ (am ([x] : List Int))⟩) := by first | (rw [gI (p := p) (by rw [hn]; exact hp hpos) heq,hn]) | (exact if hz : 0 < n then gB (p := p) (by rw [hn]; exact hp hz) (fun e => heqn ⟨hz,e⟩) else hX (by omega))
 exact ⟨⟨(i + 1,(out.set (n - 1) ⟨p.off,p.text ++ (am ([x] : List Int))⟩),A1,c1,n),⟨(by (try dsimp only); omega),(by rw [HP,hps,if_neg (by omega),hadd]),(by rw [← hadd]; intro q hq; have := addByte_bd hbd q hq; (try dsimp only); omega),(by simp [hn]),(by (try dsimp only); (try simp only [List.length_append,List.length_cons,List.length_nil]); omega)⟩⟩,ei [0,2] <| kF 0 0 [0,1,5,6],by show (fun (i : Nat) (out : List Pce) (A1 : Option Addr) (c1 : Nat) (n : Nat) => l.length - i) (i + 1) (out.set (n - 1) ⟨p.off,p.text ++ (am ([x] : List Int))⟩) A1 c1 n < l.length - i; (dsimp only; omega)⟩
 have heqn : ¬ (0 < n ∧ p.off + (p.text.size : Int) = ((i - m : Nat) : Int)) := fun e => by rw [hbq.2 e] at h5; cases h5
 refine kG <| i8 6 [0,1,5,6,64,67,68,69] [(0,.v (.slice Al l.length Cl)),(1,aI (m : Int)),(5,.v (.slice A1 n c1)),(6,aI (i : Int)),(64,.v (.slice A1 n c1)),(67,aI (K6.wrap ((i : Int) - (m : Int)))),(68,.v (.slice Al l.length Cl)),(69,aI (i : Int))] (.pointer (some ⟨bb,ob + i * 1,none⟩)) rfl (fun _ _ _ ww hr => act_ixO (kd := .i64) (T := 125) (e := 3) (K := 1) (b := bb) (off := ob) (N := l.length) (cap := Cl) i hbb hr.1 rfl rfl (by kernel_rfl) (by kernel_rfl) (by kernel_rfl) hlt ww) ?_
 refine i8 0 [0,1,5,6,64,67,70] [(0,.v (.slice Al l.length Cl)),(1,aI (m : Int)),(5,.v (.slice A1 n c1)),(6,aI (i : Int)),(64,.v (.slice A1 n c1)),(67,aI (K6.wrap ((i : Int) - (m : Int)))),(70,.v (.pointer (some ⟨bb,ob + i * 1,none⟩)))] (iI x) rfl (fun _ _ _ ww hr => ldS_run (j := i) (row := [iI x]) (c7 (.slice Al l.length Cl) 1 (l.map aq)) hr rfl (by kernel_rfl) (by simp) (by simp only [List.getElem?_map,hx]; rfl) (by kernel_rfl) hbb rfl) ?_
 refine kHS 1 [0,1,5,6,64,67,72] [(0,.v (.slice Al l.length Cl)),(1,aI (m : Int)),(5,.v (.slice A1 n c1)),(6,aI (i : Int)),(64,.v (.slice A1 n c1)),(67,aI (K6.wrap ((i : Int) - (m : Int)))),(72,.v (.int .u8 (IntKind.u8.wrap x)))] rfl (bi (e := 5) (K := 1) (bytes := 1) [.int .u8 (IntKind.u8.wrap x)] (rs := ([IntKind.u8.wrap x] : List Int).map bR) rfl rfl) ?_
 intro g12
 refine i8 0 [0,1,5,6,64,67,73] [(0,.v (.slice Al l.length Cl)),(1,aI (m : Int)),(5,.v (.slice A1 n c1)),(6,aI (i : Int)),(64,.v (.slice A1 n c1)),(67,aI (K6.wrap ((i : Int) - (m : Int)))),(73,.v (.slice (some ⟨g12,0,none⟩) 1 1))] (.string (am ([IntKind.u8.wrap x] : List Int))) rfl (fun _ _ _ ww hr => cb (e := 5) ([IntKind.u8.wrap x] : List Int) hr.1 rfl (by kernel_rfl) (by kernel_rfl) (by kernel_rfl) rfl (aS (hr.2.fact (ap w.heap.size 5 1 (.slice (some ⟨g12,0,none⟩) 1 1) (([IntKind.u8.wrap x] : List Int).map bR)) (by simp)).1)) ?_
 refine i8 0 [0,1,5,6,64,67,74] [(0,.v (.slice Al l.length Cl)),(1,aI (m : Int)),(5,.v (.slice A1 n c1)),(6,aI (i : Int)),(64,.v (.slice A1 n c1)),(67,aI (K6.wrap ((i : Int) - (m : Int)))),(74,.v (.string (am ([IntKind.u8.wrap x] : List Int))))] (.agg (ff (⟨K6.wrap ((i : Int) - (m : Int)),am ([IntKind.u8.wrap x] : List Int)⟩ : Pce)).toArray) rfl (fun _ _ _ ww hr => aN [(0,iI (K6.wrap ((i : Int) - (m : Int)))),(1,.string (am ([IntKind.u8.wrap x] : List Int)))] hr.1 rfl (by kernel_rfl) (by kernel_rfl) ww) ?_
 refine kHS 0 [0,1,5,6,64,75] [(0,.v (.slice Al l.length Cl)),(1,aI (m : Int)),(5,.v (.slice A1 n c1)),(6,aI (i : Int)),(64,.v (.slice A1 n c1)),(75,.v (.agg (ff (⟨K6.wrap ((i : Int) - (m : Int)),am ([IntKind.u8.wrap x] : List Int)⟩ : Pce)).toArray))] rfl (bi (e := 85) (K := 2) (bytes := 24) [.agg (ff (⟨K6.wrap ((i : Int) - (m : Int)),am ([IntKind.u8.wrap x] : List Int)⟩ : Pce)).toArray] (rs := ([⟨K6.wrap ((i : Int) - (m : Int)),am ([IntKind.u8.wrap x] : List Int)⟩] : List Pce).map pC) rfl rfl) ?_
 intro g13
 refine kHS 0 [0,1,5,6,64,76] [(0,.v (.slice Al l.length Cl)),(1,aI (m : Int)),(5,.v (.slice A1 n c1)),(6,aI (i : Int)),(64,.v (.slice A1 n c1)),(76,.v (.slice (some ⟨g13,0,none⟩) 1 1))] rfl (dt (e := 85) (K := 2) (bytes := 24) (i := 2) (q := (out ++ ([⟨K6.wrap ((i : Int) - (m : Int)),am ([IntKind.u8.wrap x] : List Int)⟩] : List Pce)).length) (new := ([⟨K6.wrap ((i : Int) - (m : Int)),am ([IntKind.u8.wrap x] : List Int)⟩] : List Pce).map pC) (rs' := (out ++ ([⟨K6.wrap ((i : Int) - (m : Int)),am ([IntKind.u8.wrap x] : List Int)⟩] : List Pce)).map pC) rfl rfl rfl rfl (by kernel_rfl) (by kernel_rfl) (by kernel_rfl) rfl (by simp) (by rw [List.map_append]) (by simp) (fun ww hf => (aS (hf (ap w.heap.size 85 2 (.slice (some ⟨g13,0,none⟩) 1 1) (([⟨K6.wrap ((i : Int) - (m : Int)),am ([IntKind.u8.wrap x] : List Int)⟩] : List Pce).map pC)) (by simp)))) (by intro r hr; obtain ⟨x,hx,rfl⟩ := List.mem_map.1 hr; exact ⟨rfl,by simp [pC,Value.oneCell']⟩) (by (try simp only [List.length_map,List.length_append,List.length_cons,List.length_nil,List.length_take,List.length_drop,maxLen]); omega) (by (try simp only [List.length_map,List.length_append,List.length_cons,List.length_nil,List.length_take,List.length_drop,maxLen]); omega)) ?_
 rintro ⟨v14a,v14c⟩
 refine cR 1 [0,1,5,6] [(0,.v (.slice Al l.length Cl)),(1,aI (m : Int)),(5,.v (.slice v14a ((out ++ ([⟨K6.wrap ((i : Int) - (m : Int)),am ([IntKind.u8.wrap x] : List Int)⟩] : List Pce)).length) v14c)),(6,aI (i : Int))] <| gW (st' := ⟨[(0,.v (.slice Al l.length Cl)),(1,aI (m : Int)),(5,.v (.slice v14a ((out ++ ([⟨((i - m : Nat) : Int),am ([x] : List Int)⟩] : List Pce)).length) v14c)),(6,aI (i : Int))],[],[],[ap w.heap.size 85 2 (.slice v14a ((out ++ ([⟨((i - m : Nat) : Int),am ([x] : List Int)⟩] : List Pce)).length) v14c) ((out ++ ([⟨((i - m : Nat) : Int),am ([x] : List Int)⟩] : List Pce)).map pC),ap w.heap.size 85 2 (.slice (some ⟨g13,0,none⟩) 1 1) (([⟨((i - m : Nat) : Int),am ([x] : List Int)⟩] : List Pce).map pC),ap w.heap.size 5 1 (.slice (some ⟨g12,0,none⟩) 1 1) (([x] : List Int).map bR),c7 (.slice Al l.length Cl) 1 (l.map aq)]⟩) (by rw [show (K6.wrap ((i : Int) - (m : Int))) = ((i - m : Nat) : Int) from by rw [ab (by omega) (by omega)]; omega,show (IntKind.u8.wrap x) = x from u8_id (by omega) (by omega)] <;> rfl) ?_
 refine aJ [0,1,5,6] [(0,.v (.slice Al l.length Cl)),(1,aI (m : Int)),(5,.v (.slice v14a ((out ++ ([⟨((i - m : Nat) : Int),am ([x] : List Int)⟩] : List Pce)).length) v14c)),(6,aI (i : Int))] <| kG <| cR 3 [0,1,5,6] [(0,.v (.slice Al l.length Cl)),(1,aI (m : Int)),(5,.v (.slice v14a ((out ++ ([⟨((i - m : Nat) : Int),am ([x] : List Int)⟩] : List Pce)).length) v14c)),(6,aI (K6.wrap ((i : Int) + 1)))] <| dg (t' := [(0,.v (.slice Al l.length Cl)),(1,aI (m : Int)),(5,.v (.slice v14a ((out ++ ([⟨((i - m : Nat) : Int),am ([x] : List Int)⟩] : List Pce)).length) v14c)),(6,aI ((i : Int) + 1))]) (by rw [show (K6.wrap ((i : Int) + 1)) = ((i : Int) + 1) from ab (by omega) (by omega)]) ?_
 refine aJ [0,1,5,6] [(0,.v (.slice Al l.length Cl)),(1,aI (m : Int)),(5,.v (.slice v14a ((out ++ ([⟨((i - m : Nat) : Int),am ([x] : List Int)⟩] : List Pce)).length) v14c)),(6,aI ((i : Int) + 1))] ?_
 have hadd : dP out (i - m) x = (out ++ ([⟨((i - m : Nat) : Int),am ([x] : List Int)⟩] : List Pce)) := by first | (rw [gI (p := p) (by rw [hn]; exact hp hpos) heq,hn]) | (exact if hz : 0 < n then gB (p := p) (by rw [hn]; exact hp hz) (fun e => heqn ⟨hz,e⟩) else hX (by omega))
 exact ⟨⟨(i + 1,(out ++ ([⟨((i - m : Nat) : Int),am ([x] : List Int)⟩] : List Pce)),v14a,v14c,(out ++ ([⟨((i - m : Nat) : Int),am ([x] : List Int)⟩] : List Pce)).length),⟨(by (try dsimp only); omega),(by rw [HP,hps,if_neg (by omega),hadd]),(by rw [← hadd]; intro q hq; have := addByte_bd hbd q hq; (try dsimp only); omega),(by simp [hn]),(by (try dsimp only); (try simp only [List.length_append,List.length_cons,List.length_nil]); omega)⟩⟩,ei [0,3] <| kF 0 0 [0,1,5,6],by show (fun (i : Nat) (out : List Pce) (A1 : Option Addr) (c1 : Nat) (n : Nat) => l.length - i) (i + 1) (out ++ ([⟨((i - m : Nat) : Int),am ([x] : List Int)⟩] : List Pce)) v14a v14c ((out ++ ([⟨((i - m : Nat) : Int),am ([x] : List Int)⟩] : List Pce)).length) < l.length - i; (dsimp only; omega)⟩
 have h2p := of_decide_eq_false h2
 have hge : i = l.length := by simp at h2; omega
 rw [hge,List.drop_length,fl] at HP
 refine cq <| kQ <| aJ [4] [(4,.v (.slice A1 n c1))] <| kR ?_
 have hmod : fl [] 0 (l.drop m) = out := by exact HP
 exact ⟨[.slice A1 n c1],by kernel_rfl,fun w' hb hf ha => by rw [hmod,hn]; exact im ((A1,c1)) rfl rfl (pW (hf _ m0) hB) hb⟩
end Go.Proofs.YtebgmdiejgcoiaaGreat
