/- Contracts that this law needs, part 1. -/
import Derived.Test.YtccijpdjfelbmaaYW
import Derived.Test.YtccijpdjfelbmaaA5
import Derived.Test.YtccijpdjfelbmaaG1
import Derived.Test.YtccijpdjfelbmaaYD
import Derived.Test.YtccijpdjfelbmaaG3
import Derived.Test.YtccijpdjfelbmaaA2
import Derived.Test.YtccijpdjfelbmaaG2
namespace Go.Proofs.Ytccijpdjfelbmaa
open Go.RowKit
set_option linter.unusedVariables false
set_option linter.unusedSimpArgs false
set_option maxRecDepth 100000
set_option maxHeartbeats 2000000
abbrev aI (x : Int) : AV := .v (.int .i64 x)
abbrev aB (x : Bool) : AV := .v (.bool x)
abbrev aP (x : Nat) : AV := .v (.pointer (some ⟨x, 0, none⟩))
abbrev gP (x : Nat) : Value := .pointer (some ⟨x, 0, none⟩)
abbrev iI (x : Int) : Value := .int .i64 x
abbrev cF (B g : Nat) (A : Option Addr) (c : List Int) (cap : Nat) : Fact := eU B g 59 (.slice A c.length cap) c.length
abbrev cS (a : Option Addr) (c : Con) (n : Nat) : Value := .slice a c.r.held.length n
abbrev cH (a : Option Addr) (c : Con) (n : Nat) : Fact := bz (cS a c n) 2 (c.r.held.map pC)
abbrev sJ (a : Option Addr) (c : List Int) (n : Nat) : Value := .slice a c.length n
abbrev sQ (a : Option Addr) (c : List Int) (n : Nat) : Fact := bz (sJ a c n) 1 (c.map bR)
abbrev K6 : IntKind := .i64


theorem ysMssFor_c (c : Con) (rV : Value) (w : World)  : Calls Try.prog 89 #[.agg (a6 c rV).toArray] w fun e w' => e = .returned (iI (go c)) ∧ Below w.heap.size w w' := by
 refine cn (args := [.agg (a6 c rV).toArray]) (fn := Try.f89) [] Try.func89 rfl Try.ntmps89 rfl (by simp) ?_
 refine kQ <| cv [1] ⟨[(1,.p 0 0)],[⟨50,a6 c rV⟩],[],[]⟩ <| kS <| kQ <| aD [1,6] [(1,.p 0 0),(6,aB (c.o.mss == 0))] ?_
 refine kC (c.o.mss == 0) (fun h1 => ?_) (fun h1 => ?_)
 have h1p := cN h1
 refine kQ <| aD [2] [(2,aI 536)] <| kR ?_
 exact ⟨[iI 536],by kernel_rfl,fun w' hb hf => ⟨ret_int (show (536 : Int) = go c from by first | rfl | (simp [go, *]; done) | (simp [go, *]; omega) | grind [bD,go]),hb⟩⟩
 have h1p := cI h1
 refine kK <| kQ <| em 3 [9] [(9,aI c.o.mss)] 88 [iI 1460,iI c.o.mss] (some 10) rfl (bF fun ww hf => fG 1460 c.o.mss ww ) ?_
 intro _
 refine em 0 [10] [(10,aI (min 1460 c.o.mss))] 55 [iI 1,iI (min 1460 c.o.mss)] (some 11) rfl (bF fun ww hf => dE 1 (min 1460 c.o.mss) ww ) ?_
 intro _
 refine aD [2] [(2,aI (max 1 (min 1460 c.o.mss)))] <| kR ?_
 exact ⟨[iI (max 1 (min 1460 c.o.mss))],by kernel_rfl,fun w' hb hf => ⟨ret_int (show (max 1 (min 1460 c.o.mss) : Int) = go c from by first | rfl | (simp [go, *]; done) | (simp [go, *]; omega) | grind [bD,go]),hb⟩⟩
theorem ysUnsent_c (c : Con) (rV : Value) (w : World)  : Calls Try.prog 90 #[.agg (a6 c rV).toArray] w fun e w' => e = .returned (.bool (gw c)) ∧ Below w.heap.size w w' := by
 refine cn (args := [.agg (a6 c rV).toArray]) (fn := Try.f90) [] Try.func90 rfl Try.ntmps90 rfl (by simp) ?_
 refine kQ <| cv [1] ⟨[(1,.p 0 0)],[⟨50,a6 c rV⟩],[],[]⟩ <| kS <| c7 ⟨[(2,aB ((!(c.s.data.toList == (⟨#[]⟩ : ByteArray).toList)) || (c.s.fin && (!c.s.done))))],[⟨50,a6 c rV⟩],[],[]⟩ ?_ ?_
 refine kG <| eo 5 [1,7] [(1,.p 0 0),(7,aB (!(c.s.data.toList == (⟨#[]⟩ : ByteArray).toList)))] <| kP 7 (!(c.s.data.toList == (⟨#[]⟩ : ByteArray).toList)) (fun h1 => ?_) (fun h1 => ?_)
 have h1n := co h1
 have h1np := h1n; simp only [beq_iff_eq,bne_iff_ne,beq_eq_false_iff_ne,bne_eq_false_iff_eq,ne_eq,bD] at h1np
 refine aD [2] [(2,aB true)] ?_
 show Wk _ _
 try rw [h1]
 exact kF 1 0 [2]
 have h1n := bj h1
 have h1np := h1n; simp only [beq_iff_eq,bne_iff_ne,beq_eq_false_iff_ne,bne_eq_false_iff_eq,ne_eq,bD] at h1np
 refine eo 4 [1,7,11] [(1,.p 0 0),(7,aB false),(11,aB c.s.fin)] <| kP 11 (c.s.fin) (fun h2 => ?_) (fun h2 => ?_)
 refine aD [2] [(2,aB (!c.s.done))] ?_
 show Wk _ _
 try rw [h1]
 try rw [h2]
 exact kF 1 0 [2]
 refine aD [2] [(2,aB false)] ?_
 show Wk _ _
 try rw [h1]
 try rw [h2]
 exact kF 1 0 [2]
 refine kR ?_
 exact ⟨[.bool ((!(c.s.data.toList == (⟨#[]⟩ : ByteArray).toList)) || (c.s.fin && (!c.s.done)))],by kernel_rfl,fun w' hb hf => ⟨aS (show ((!(c.s.data.toList == (⟨#[]⟩ : ByteArray).toList)) || (c.s.fin && (!c.s.done)) : Bool) = gw c from by first | rfl | (simp [gw, *]; done) | (simp [gw, *]; omega) | grind [bD,gw]),hb⟩⟩
theorem fV (r : Rcv) (r_heldV : Value) (w : World) (hl_r_heldV : Sl w r_heldV 2 (r.held.map pC)) (hm : ∀ p ∈ r.held, p.text.size ≤ 1048576) (hsz : r.data.size ≤ 4611686018427387904) : Calls Try.prog 86 #[.agg (ab r r_heldV).toArray] w fun e w' => e = .returned (.bool (rO r)) ∧ Below w.heap.size w w' := by
 have hw := fE r
 obtain ⟨Arh,Crh,hvrh⟩ := hl_r_heldV.form
 rw [List.length_map] at hvrh; subst hvrh
 have hnrh := hl_r_heldV.len; rw [List.length_map] at hnrh
 have hqrh := Sl.capLe hl_r_heldV
 refine cn (args := [.agg (ab r (.slice Arh r.held.length Crh)).toArray]) (fn := Try.f86) [bz (.slice Arh r.held.length Crh) 2 (r.held.map pC)] Try.func86 rfl Try.ntmps86 rfl (by simp only [List.mem_cons,List.not_mem_nil,or_false,forall_eq_or_imp,forall_eq]; exact ⟨rfl,hl_r_heldV⟩) ?_
 refine kQ <| cv [1] ⟨[(1,.p 0 0)],[⟨46,ab r (.slice Arh r.held.length Crh)⟩],[],[bz (.slice Arh r.held.length Crh) 2 (r.held.map pC)]⟩ <| kQ <| dZ 1 [1,7] [(7,.v (.agg (ab r (.slice Arh r.held.length Crh)).toArray))] 65 [.agg (ab r (.slice Arh r.held.length Crh)).toArray] (some 8) rfl (br fun ww hf => e7 r.next r.data r.held (.slice Arh r.held.length Crh) r.fin r.done ww (by omega)) ?_
 intro _
 refine aU [1,3] [(3,aI (wO r))] <| kS <| kQ <| dZ 2 [1,3,10] [(10,aI r.next)] 54 [iI r.next,iI 32] (some 11) rfl (bF fun ww hf => eW r.next ww) ?_
 intro _
 refine dK 2 [1,3,13] [(13,aB (!(aR r.next 32)))] <| kP 13 (!(aR r.next 32)) (fun h1 => ?_) (fun h1 => ?_)
 have h1n := co h1
 refine aU [1,3,36] [(36,aB true)] <| kT <| kQ <| aD [2] [(2,aB false)] ?_
 refine kR ?_
 exact ⟨[.bool false],by kernel_rfl,fun w' hb hf => ⟨aS (show (false : Bool) = rO r from by first | rfl | (rw [HR,HK]; simp [*]; done) | (rw [HR,HK]; simp [*]; omega) | (rw [HR,HK]; grind [dn]) | (simp [rO,aA, *]; done) | (simp [rO,aA, *]; omega) | grind [rO,aA]),hb⟩⟩
 have h1n := bj h1
 refine dK 6 [1,3,19] [(19,aB (decide ((r.data.size : Int) > 32)))] <| kP 19 (decide ((r.data.size : Int) > 32)) (fun h2 => ?_) (fun h2 => ?_)
 have h2p := of_decide_eq_true h2
 refine aU [1,3,36] [(36,aB true)] <| kT <| kQ <| aD [2] [(2,aB false)] ?_
 refine kR ?_
 exact ⟨[.bool false],by kernel_rfl,fun w' hb hf => ⟨aS (show (false : Bool) = rO r from by first | rfl | (rw [HR,HK]; simp [*]; done) | (rw [HR,HK]; simp [*]; omega) | (rw [HR,HK]; grind [dn]) | (simp [rO,aA, *]; done) | (simp [rO,aA, *]; omega) | grind [rO,aA]),hb⟩⟩
 have h2p := of_decide_eq_false h2
 refine dK 6 [1,3,25] [(25,aB (decide (((r.held.length : Nat) : Int) > 3)))] <| kP 25 (decide (((r.held.length : Nat) : Int) > 3)) (fun h3 => ?_) (fun h3 => ?_)
 have h3p := of_decide_eq_true h3
 refine aU [1,3,36] [(36,aB true)] <| kT <| kQ <| aD [2] [(2,aB false)] ?_
 refine kR ?_
 exact ⟨[.bool false],by kernel_rfl,fun w' hb hf => ⟨aS (show (false : Bool) = rO r from by first | rfl | (rw [HR,HK]; simp [*]; done) | (rw [HR,HK]; simp [*]; omega) | (rw [HR,HK]; grind [dn]) | (simp [rO,aA, *]; done) | (simp [rO,aA, *]; omega) | grind [rO,aA]),hb⟩⟩
 have h3p := of_decide_eq_false h3
 refine dZ 3 [1,3,25,27,28] [(25,aB false),(27,aI r.fin),(28,aI (wO r))] 83 [iI r.fin,iI (-1),iI (wO r)] (some 29) rfl (bF fun ww hf => dP r.fin (-1) (wO r) ww ) ?_
 intro _
 refine dK 3 [1,3,32] [(32,aB (!(cR r.fin (-1) (wO r))))] <| kP 32 (!(cR r.fin (-1) (wO r))) (fun h4 => ?_) (fun h4 => ?_)
 have h4n := co h4
 refine aU [1,3,36] [(36,aB true)] <| kT <| kQ <| aD [2] [(2,aB false)] ?_
 refine kR ?_
 exact ⟨[.bool false],by kernel_rfl,fun w' hb hf => ⟨aS (show (false : Bool) = rO r from by first | rfl | (rw [HR,HK]; simp [*]; done) | (rw [HR,HK]; simp [*]; omega) | (rw [HR,HK]; grind [dn]) | (simp [rO,aA, *]; done) | (simp [rO,aA, *]; omega) | grind [rO,aA]),hb⟩⟩
 have h4n := bj h4
 refine aU [1,3,36] [(36,aB (r.fin == 0))] <| kC (r.fin == 0) (fun h5 => ?_) (fun h5 => ?_)
 have h5p := cN h5
 refine kQ <| aD [2] [(2,aB false)] <| kR ?_
 exact ⟨[.bool false],by kernel_rfl,fun w' hb hf => ⟨aS (show (false : Bool) = rO r from by first | rfl | (rw [HR,HK]; simp [*]; done) | (rw [HR,HK]; simp [*]; omega) | (rw [HR,HK]; grind [dn]) | (simp [rO,aA, *]; done) | (simp [rO,aA, *]; omega) | grind [rO,aA]),hb⟩⟩
 have h5p := cI h5
 refine kK <| kQ <| aU [1,3,4] [(4,aI 0)] <| kS <| kQ <| aD [1,3,4,5] [(1,.p 0 0),(3,aI (wO r)),(4,aI 0),(5,aI 0)] ?_
 refine aj ?_
 have hp : aA r = true := by first | (simp [aA, *]; done) | (simp [aA, *]; omega) | grind [aA]
 have hin := inB_tt.1 (rcvPre_iff.1 hp).2.2.2.1
 have HR := receiverOkS r hp
 refine bI (α := {x : Nat × Int // (fun (k : Nat) (z : Int) => k ≤ r.held.length ∧ 0 ≤ z ∧ z ≤ 32 ∧ dL (wO r) r.fin 0 r.held = dL (wO r) r.fin z (r.held.drop k)) x.1 x.2}) (fun x => (fun (k : Nat) (z : Int) => (⟨[(1,.p 0 0),(3,aI (wO r)),(4,aI z),(5,aI (k : Int))],[⟨46,ab r (.slice Arh r.held.length Crh)⟩],[],[bz (.slice Arh r.held.length Crh) 2 (r.held.map pC)]⟩ : St)) x.1.1 x.1.2) (fun x => r.held.length - x.1.1) ⟨(0,0),⟨Nat.zero_le _,by omega,by omega,rfl⟩⟩ (kF 1 0 [1,3,4,5]) ?_
 rintro ⟨⟨k,z⟩,hk,hz0,hz1,HK⟩
 try dsimp only
 try dsimp only at hk hz0 hz1 HK
 refine kS <| kQ <| aU [1,3,4,5,41] [(41,aB (decide ((k : Int) < ((r.held.length : Nat) : Int))))] <| kC (decide ((k : Int) < ((r.held.length : Nat) : Int))) (fun h6 => ?_) (fun h6 => ?_)
 have h6p := of_decide_eq_true h6
 have hlt : k < r.held.length := by simpa using h6
 obtain ⟨x,hx⟩ : ∃ x,r.held[k]? = some x := ⟨_,List.getElem?_eq_getElem hlt⟩
 have hxm := hm x (List.mem_of_getElem? hx)
 rw [drop_cons_of hx] at HK; simp only [dL,ft] at HK
 refine kK <| kS <| aj <| kQ <| fe (kd := .i64) (T := 44) (e := 72) (K := 2) 3 [1,3,4,5,45,46] [(45,.v (.slice Arh r.held.length Crh)),(46,aI (k : Int))] k [iI x.off,.string x.text] (bz (.slice Arh r.held.length Crh) 2 (r.held.map pC)) (by kernel_rfl) rfl (by kernel_rfl) rfl rfl (by kernel_rfl) (by kernel_rfl) (by kernel_rfl) (by kernel_rfl) hlt (by simp) (fun w h => h) (fun b h => h) (by simp only [List.getElem?_map,hx]; rfl) ?_
 refine kEA [1,3,4,5,6] [(6,.p 1 0)] [⟨72,pceL x⟩] <| kS <| kQ <| dK 4 [1,3,4,5,6,52] [(52,aB (x.text.toList == (⟨#[]⟩ : ByteArray).toList))] ?_
 refine kP 52 (x.text.toList == (⟨#[]⟩ : ByteArray).toList) (fun h7 => ?_) (fun h7 => ?_)
 have h7p := h7; simp only [beq_iff_eq,bne_iff_ne,beq_eq_false_iff_ne,bne_eq_false_iff_eq,ne_eq,bD] at h7p
 refine aU [1,3,5,6,73] [(73,aB true)] <| kT <| kQ <| aD [2] [(2,aB false)] ?_
 refine kR ?_
 exact ⟨[.bool false],by kernel_rfl,fun w' hb hf => ⟨aS (show (false : Bool) = rO r from by first | rfl | (rw [HR,HK]; simp [*]; done) | (rw [HR,HK]; simp [*]; omega) | (rw [HR,HK]; grind [dn]) | (simp [rO,aA, *]; done) | (simp [rO,aA, *]; omega) | grind [rO,aA]),hb⟩⟩
 have h7p := h7; simp only [beq_iff_eq,bne_iff_ne,beq_eq_false_iff_ne,bne_eq_false_iff_eq,ne_eq,bD] at h7p
 refine dK 6 [1,3,5,6,58] [(58,aB (decide (x.off ≤ z)))] <| kP 58 (decide (x.off ≤ z)) (fun h8 => ?_) (fun h8 => ?_)
 have h8p := of_decide_eq_true h8
 refine aU [1,3,5,6,73] [(73,aB true)] <| kT <| kQ <| aD [2] [(2,aB false)] ?_
 refine kR ?_
 exact ⟨[.bool false],by kernel_rfl,fun w' hb hf => ⟨aS (show (false : Bool) = rO r from by first | rfl | (rw [HR,HK]; simp [*]; done) | (rw [HR,HK]; simp [*]; omega) | (rw [HR,HK]; grind [dn]) | (simp [rO,aA, *]; done) | (simp [rO,aA, *]; omega) | grind [rO,aA]),hb⟩⟩
 have h8p := of_decide_eq_false h8
 refine dK 6 [1,3,5,6,64] [(64,aB (decide (x.off > (wO r))))] <| kP 64 (decide (x.off > (wO r))) (fun h9 => ?_) (fun h9 => ?_)
 have h9p := of_decide_eq_true h9
 refine aU [1,3,5,6,73] [(73,aB true)] <| kT <| kQ <| aD [2] [(2,aB false)] ?_
 refine kR ?_
 exact ⟨[.bool false],by kernel_rfl,fun w' hb hf => ⟨aS (show (false : Bool) = rO r from by first | rfl | (rw [HR,HK]; simp [*]; done) | (rw [HR,HK]; simp [*]; omega) | (rw [HR,HK]; grind [dn]) | (simp [rO,aA, *]; done) | (simp [rO,aA, *]; omega) | grind [rO,aA]),hb⟩⟩
 have h9p := of_decide_eq_false h9
 refine dK 9 [1,3,5,6,73] [(73,aB (decide ((K6.wrap (x.off + (x.text.size : Int))) > (wO r))))] <| cJ [1,3,5,6,73] [(73,aB (decide ((K6.wrap (x.off + (x.text.size : Int))) > (wO r))))] [(73,aB (decide ((x.off + (x.text.size : Int)) > (wO r))))] (by rw [show (K6.wrap (x.off + (x.text.size : Int))) = (x.off + (x.text.size : Int)) from al (by omega) (by omega)]) (by kernel_rfl) ?_
 refine aU [1,3,5,6,73] [] <| kC (decide ((x.off + (x.text.size : Int)) > (wO r))) (fun h10 => ?_) (fun h10 => ?_)
 have h10p := of_decide_eq_true h10
 refine kQ <| aD [2] [(2,aB false)] <| kR ?_
 exact ⟨[.bool false],by kernel_rfl,fun w' hb hf => ⟨aS (show (false : Bool) = rO r from by first | rfl | (rw [HR,HK]; simp [*]; done) | (rw [HR,HK]; simp [*]; omega) | (rw [HR,HK]; grind [dn]) | (simp [rO,aA, *]; done) | (simp [rO,aA, *]; omega) | grind [rO,aA]),hb⟩⟩
 have h10p := of_decide_eq_false h10
 refine kK <| kG <| eo 7 [1,3,4,5] [(1,.p 0 0),(3,aI (wO r)),(4,aI (K6.wrap (x.off + (x.text.size : Int)))),(5,aI (k : Int))] <| gd (t' := [(1,.p 0 0),(3,aI (wO r)),(4,aI (x.off + (x.text.size : Int))),(5,aI (k : Int))]) (by rw [show (K6.wrap (x.off + (x.text.size : Int))) = (x.off + (x.text.size : Int)) from al (by omega) (by omega)]) ?_
 refine aU [1,3,4,5] [] <| kG <| dK 3 [1,3,4,5] [(5,aI (K6.wrap ((k : Int) + 1)))] <| cJ [1,3,4,5] [(5,aI (K6.wrap ((k : Int) + 1)))] [(5,aI ((k : Int) + 1))] (by rw [show (K6.wrap ((k : Int) + 1)) = ((k : Int) + 1) from al (by omega) (by omega)]) (by kernel_rfl) ?_
 refine aU [1,3,4,5] [] ?_
 exact ⟨⟨(k + 1,x.off + (x.text.size : Int)),⟨by omega,by omega,by omega,by rw [HK]; first | (simp [*]; done) | (simp [*]; omega) | grind⟩⟩,kF 1 0 [1,3,4,5],by show r.held.length - (k + 1) < r.held.length - k; omega⟩
 have h6p := of_decide_eq_false h6
 have hge : k = r.held.length := by simp at h6; omega
 subst hge; simp only [List.drop_length,dL,ft] at HK
 refine c5 <| kQ <| dK 4 [1,4,83] [(83,aB (decide (r.fin < 0)))] <| kP 83 (decide (r.fin < 0)) (fun h11 => ?_) (fun h11 => ?_)
 have h11p := of_decide_eq_true h11
 refine dK 10 [1,89,93] [(89,aB true),(93,aB (!r.done))] <| kP 93 (!r.done) (fun h12 => ?_) (fun h12 => ?_)
 have h12n := co h12
 refine aD [2] [(2,aB true)] <| kR ?_
 exact ⟨[.bool true],by kernel_rfl,fun w' hb hf => ⟨aS (show (true : Bool) = rO r from by first | rfl | (rw [HR,HK]; simp [*]; done) | (rw [HR,HK]; simp [*]; omega) | (rw [HR,HK]; grind [dn]) | (simp [rO,aA, *]; done) | (simp [rO,aA, *]; omega) | grind [rO,aA]),hb⟩⟩
 have h12n := bj h12
 refine dK 5 [1,89,93,98] [(93,aB false),(98,aB (((r.held.length : Nat) : Int) == 0))] <| kP 98 (((r.held.length : Nat) : Int) == 0) (fun h13 => ?_) (fun h13 => ?_)
 have h13p := cN h13
 refine aD [2] [(2,aB (r.fin == (-1)))] <| kR ?_
 exact ⟨[.bool (r.fin == (-1))],by kernel_rfl,fun w' hb hf => ⟨aS (show (r.fin == (-1) : Bool) = rO r from by first | rfl | (rw [HR,HK]; simp [*]; done) | (rw [HR,HK]; simp [*]; omega) | (rw [HR,HK]; grind [dn]) | (simp [rO,aA, *]; done) | (simp [rO,aA, *]; omega) | grind [rO,aA]),hb⟩⟩
 have h13p := cI h13
 refine aD [2] [(2,aB false)] <| kR ?_
 exact ⟨[.bool false],by kernel_rfl,fun w' hb hf => ⟨aS (show (false : Bool) = rO r from by first | rfl | (rw [HR,HK]; simp [*]; done) | (rw [HR,HK]; simp [*]; omega) | (rw [HR,HK]; grind [dn]) | (simp [rO,aA, *]; done) | (simp [rO,aA, *]; omega) | grind [rO,aA]),hb⟩⟩
 have h11p := of_decide_eq_false h11
 refine dK 6 [1,89] [(89,aB (decide (z ≤ r.fin)))] <| kP 89 (decide (z ≤ r.fin)) (fun h14 => ?_) (fun h14 => ?_)
 have h14p := of_decide_eq_true h14
 refine dK 4 [1,89,93] [(89,aB true),(93,aB (!r.done))] <| kP 93 (!r.done) (fun h15 => ?_) (fun h15 => ?_)
 have h15n := co h15
 refine aD [2] [(2,aB true)] <| kR ?_
 exact ⟨[.bool true],by kernel_rfl,fun w' hb hf => ⟨aS (show (true : Bool) = rO r from by first | rfl | (rw [HR,HK]; simp [*]; done) | (rw [HR,HK]; simp [*]; omega) | (rw [HR,HK]; grind [dn]) | (simp [rO,aA, *]; done) | (simp [rO,aA, *]; omega) | grind [rO,aA]),hb⟩⟩
 have h15n := bj h15
 refine dK 5 [1,89,93,98] [(93,aB false),(98,aB (((r.held.length : Nat) : Int) == 0))] <| kP 98 (((r.held.length : Nat) : Int) == 0) (fun h16 => ?_) (fun h16 => ?_)
 have h16p := cN h16
 refine aD [2] [(2,aB (r.fin == (-1)))] <| kR ?_
 exact ⟨[.bool (r.fin == (-1))],by kernel_rfl,fun w' hb hf => ⟨aS (show (r.fin == (-1) : Bool) = rO r from by first | rfl | (rw [HR,HK]; simp [*]; done) | (rw [HR,HK]; simp [*]; omega) | (rw [HR,HK]; grind [dn]) | (simp [rO,aA, *]; done) | (simp [rO,aA, *]; omega) | grind [rO,aA]),hb⟩⟩
 have h16p := cI h16
 refine aD [2] [(2,aB false)] <| kR ?_
 exact ⟨[.bool false],by kernel_rfl,fun w' hb hf => ⟨aS (show (false : Bool) = rO r from by first | rfl | (rw [HR,HK]; simp [*]; done) | (rw [HR,HK]; simp [*]; omega) | (rw [HR,HK]; grind [dn]) | (simp [rO,aA, *]; done) | (simp [rO,aA, *]; omega) | grind [rO,aA]),hb⟩⟩
 have h14p := of_decide_eq_false h14
 refine aD [2] [(2,aB false)] <| kR ?_
 exact ⟨[.bool false],by kernel_rfl,fun w' hb hf => ⟨aS (show (false : Bool) = rO r from by first | rfl | (rw [HR,HK]; simp [*]; done) | (rw [HR,HK]; simp [*]; omega) | (rw [HR,HK]; grind [dn]) | (simp [rO,aA, *]; done) | (simp [rO,aA, *]; omega) | grind [rO,aA]),hb⟩⟩
theorem ysSameReceiver_c (a : Rcv) (a_heldV : Value) (b : Rcv) (b_heldV : Value) (w : World) (hl_a_heldV : Sl w a_heldV 2 (a.held.map pC)) (hl_b_heldV : Sl w b_heldV 2 (b.held.map pC))  : Calls Try.prog 23 #[.agg (ab a a_heldV).toArray, .agg (ab b b_heldV).toArray] w fun e w' => e = .returned (.bool (bW a b)) ∧ Below w.heap.size w w' := by
 obtain ⟨Aah,Cah,hvah⟩ := hl_a_heldV.form
 rw [List.length_map] at hvah; subst hvah
 have hnah := hl_a_heldV.len; rw [List.length_map] at hnah
 have hqah := Sl.capLe hl_a_heldV
 obtain ⟨Abh,Cbh,hvbh⟩ := hl_b_heldV.form
 rw [List.length_map] at hvbh; subst hvbh
 have hnbh := hl_b_heldV.len; rw [List.length_map] at hnbh
 have hqbh := Sl.capLe hl_b_heldV
 refine cn (args := [.agg (ab a (.slice Aah a.held.length Cah)).toArray,.agg (ab b (.slice Abh b.held.length Cbh)).toArray]) (fn := Try.f23) [bz (.slice Aah a.held.length Cah) 2 (a.held.map pC),bz (.slice Abh b.held.length Cbh) 2 (b.held.map pC)] Try.func23 rfl Try.ntmps23 rfl (by simp only [List.mem_cons,List.not_mem_nil,or_false,forall_eq_or_imp,forall_eq]; exact ⟨⟨rfl,hl_a_heldV⟩,⟨rfl,hl_b_heldV⟩⟩) ?_
 refine kQ <| cv [2,3] ⟨[(2,.p 0 0),(3,.p 1 0)],[⟨46,ab a (.slice Aah a.held.length Cah)⟩,⟨46,ab b (.slice Abh b.held.length Cbh)⟩],[],[bz (.slice Aah a.held.length Cah) 2 (a.held.map pC),bz (.slice Abh b.held.length Cbh) 2 (b.held.map pC)]⟩ <| kS <| kS <| c7 ⟨[(2,.p 0 0),(3,.p 1 0),(40,aB ((a.next != b.next) || ((!(a.data.toList == b.data.toList)) || ((a.fin != b.fin) || ((!(a.done == b.done)) || (((a.held.length : Nat) : Int) != ((b.held.length : Nat) : Int)))))))],[⟨46,ab a (.slice Aah a.held.length Cah)⟩,⟨46,ab b (.slice Abh b.held.length Cbh)⟩],[],[bz (.slice Aah a.held.length Cah) 2 (a.held.map pC),bz (.slice Abh b.held.length Cbh) 2 (b.held.map pC)]⟩ ?_ ?_
 refine kG <| eo 6 [2,3,11] [(2,.p 0 0),(3,.p 1 0),(11,aB (a.next != b.next))] <| kP 11 (a.next != b.next) (fun h1 => ?_) (fun h1 => ?_)
 have h1p := neT h1
 refine aD [2,3,40] [(2,.p 0 0),(3,.p 1 0),(40,aB true)] ?_
 show Wk _ _
 try rw [h1]
 exact kF 2 0 [2,3,40]
 have h1p := neF h1
 refine eo 7 [2,3,18] [(2,.p 0 0),(3,.p 1 0),(18,aB (!(a.data.toList == b.data.toList)))] <| kP 18 (!(a.data.toList == b.data.toList)) (fun h2 => ?_) (fun h2 => ?_)
 have h2n := co h2
 have h2np := h2n; simp only [beq_iff_eq,bne_iff_ne,beq_eq_false_iff_ne,bne_eq_false_iff_eq,ne_eq,bD] at h2np
 refine aD [2,3,40] [(2,.p 0 0),(3,.p 1 0),(40,aB true)] ?_
 show Wk _ _
 try rw [h1]
 try rw [h2]
 exact kF 2 0 [2,3,40]
 have h2n := bj h2
 have h2np := h2n; simp only [beq_iff_eq,bne_iff_ne,beq_eq_false_iff_ne,bne_eq_false_iff_eq,ne_eq,bD] at h2np
 refine eo 7 [2,3,25] [(2,.p 0 0),(3,.p 1 0),(25,aB (a.fin != b.fin))] <| kP 25 (a.fin != b.fin) (fun h3 => ?_) (fun h3 => ?_)
 have h3p := neT h3
 refine aD [2,3,40] [(2,.p 0 0),(3,.p 1 0),(40,aB true)] ?_
 show Wk _ _
 try rw [h1]
 try rw [h2]
 try rw [h3]
 exact kF 2 0 [2,3,40]
 have h3p := neF h3
 refine eo 7 [2,3,32] [(2,.p 0 0),(3,.p 1 0),(32,aB (!(a.done == b.done)))] <| kP 32 (!(a.done == b.done)) (fun h4 => ?_) (fun h4 => ?_)
 have h4n := co h4
 have h4np := cI h4n
 refine aD [2,3,40] [(2,.p 0 0),(3,.p 1 0),(40,aB true)] ?_
 show Wk _ _
 try rw [h1]
 try rw [h2]
 try rw [h3]
 try rw [h4]
 exact kF 2 0 [2,3,40]
 have h4n := bj h4
 have h4np := cN h4n
 refine aD [2,3,40] [(2,.p 0 0),(3,.p 1 0),(40,aB (((a.held.length : Nat) : Int) != ((b.held.length : Nat) : Int)))] ?_
 show Wk _ _
 try rw [h1]
 try rw [h2]
 try rw [h3]
 try rw [h4]
 exact kF 2 0 [2,3,40]
 refine kC ((a.next != b.next) || ((!(a.data.toList == b.data.toList)) || ((a.fin != b.fin) || ((!(a.done == b.done)) || (((a.held.length : Nat) : Int) != ((b.held.length : Nat) : Int)))))) (fun h5 => ?_) (fun h5 => ?_)
 refine kQ <| aD [4] [(4,aB false)] <| kR ?_
 exact ⟨[.bool false],by kernel_rfl,fun w' hb hf => ⟨aS (show (false : Bool) = bW a b from by first | rfl | (simp [bW, *]; done) | grind [bW,d5]),hb⟩⟩
 have h5l := gn h5
 have h5lp := neF h5l
 have h5r := gj h5
 have h5rl := gn h5r
 have h5rln := bj h5rl
 have h5rlnp := h5rln; simp only [beq_iff_eq,bne_iff_ne,beq_eq_false_iff_ne,bne_eq_false_iff_eq,ne_eq,bD] at h5rlnp
 have h5rr := gj h5r
 have h5rrl := gn h5rr
 have h5rrlp := neF h5rrl
 have h5rrr := gj h5rr
 have h5rrrl := gn h5rrr
 have h5rrrln := bj h5rrrl
 have h5rrrlnp := cN h5rrrln
 have h5rrrr := gj h5rrr
 have h5rrrrp := neF h5rrrr
 refine kK <| kS <| kQ <| aD [2,3,5] [(2,.p 0 0),(3,.p 1 0),(5,aI 0)] ?_
 refine aj ?_
 have hlen : a.held.length = b.held.length := by omega
 refine bI (α := {x : Nat // (fun (k : Nat) => k ≤ a.held.length ∧ ∀ (i : Nat) (x y : Pce),i < k → a.held[i]? = some x → b.held[i]? = some y → pceEq x y = true) x}) (fun x => (fun (k : Nat) => (⟨[(2,.p 0 0),(3,.p 1 0),(5,aI (k : Int))],[⟨46,ab a (.slice Aah a.held.length Cah)⟩,⟨46,ab b (.slice Abh b.held.length Cbh)⟩],[],[bz (.slice Aah a.held.length Cah) 2 (a.held.map pC),bz (.slice Abh b.held.length Cbh) 2 (b.held.map pC)]⟩ : St)) x.1) (fun x => a.held.length - x.1) ⟨(0),⟨Nat.zero_le _,fun i x y hi => by omega⟩⟩ (kF 2 0 [2,3,5]) ?_
 rintro ⟨k,hk,HK⟩
 try dsimp only
 try dsimp only at hk HK
 refine kS <| kQ <| aD [2,3,5,45] [(2,.p 0 0),(3,.p 1 0),(5,aI (k : Int)),(45,aB (decide ((k : Int) < ((a.held.length : Nat) : Int))))] <| kC (decide ((k : Int) < ((a.held.length : Nat) : Int))) (fun h6 => ?_) (fun h6 => ?_)
 have h6p := of_decide_eq_true h6
 have hlt : k < a.held.length := by simpa using h6
 obtain ⟨x,hx⟩ : ∃ x,a.held[k]? = some x := ⟨_,List.getElem?_eq_getElem hlt⟩
 obtain ⟨y,hy⟩ : ∃ y,b.held[k]? = some y := ⟨_,List.getElem?_eq_getElem (by omega)⟩
 refine kK <| kS <| aj <| kS <| d4 ?_
 refine dm (K := 2) (j := k) [iI x.off,.string x.text] (bz (.slice Aah a.held.length Cah) 2 (a.held.map pC)) (fun _ _ h => h) (by simp) (fun w h => h) (fun b h => h) (by simp only [List.getElem?_map,hx]; rfl) (fun bq7 offq7 hAq7 => ?_)
 refine dm (K := 2) (j := k) [iI y.off,.string y.text] (bz (.slice Abh b.held.length Cbh) 2 (b.held.map pC)) (fun _ _ h => h) (by simp) (fun w h => h) (fun b h => h) (by simp only [List.getElem?_map,hy]; rfl) (fun bq8 offq8 hAq8 => ?_)
 refine cl [] (by kernel_rfl) (fun ρ σ hq9 => ?_)
 refine cK [0,1,2,5,6,7] [55,54,50,49,2,3,5] 5 [(55,aI (k : Int)),(54,.v (.slice Abh b.held.length Cbh)),(50,aI (k : Int)),(49,.v (.slice Aah a.held.length Cah)),(2,.p 0 0),(3,.p 1 0),(5,aI (k : Int))] <| cO (kd := .i64) (T := 44) (e := 72) (K := 2) (j := k) (A := Aah) (len := a.held.length) (cap := Cah) 3 0 _ rfl (by kernel_rfl) (by kernel_rfl) (by kernel_rfl) (fun _ _ h => h) (by kernel_rfl) rfl rfl (by kernel_rfl) (by kernel_rfl) (by kernel_rfl) (by kernel_rfl) hlt hAq7 hq9.1.2 (by kernel_rfl) rfl ?_
 refine cK [4] [52,55,54,2,3,5] 3 [(52,.v (.agg (pceL x).toArray)),(55,aI (k : Int)),(54,.v (.slice Abh b.held.length Cbh)),(2,.p 0 0),(3,.p 1 0),(5,aI (k : Int))] <| cO (kd := .i64) (T := 44) (e := 72) (K := 2) (j := k) (A := Abh) (len := b.held.length) (cap := Cbh) 8 1 _ rfl (by kernel_rfl) (by kernel_rfl) (by kernel_rfl) (fun _ _ h => h) (by kernel_rfl) rfl rfl (by kernel_rfl) (by kernel_rfl) (by kernel_rfl) (by kernel_rfl) (by omega) hAq8 hq9.2 (by kernel_rfl) rfl ?_
 refine cK [9] [57,52,2,3,5] 1 [(57,.v (.agg (pceL y).toArray)),(52,.v (.agg (pceL x).toArray)),(2,.p 0 0),(3,.p 1 0),(5,aI (k : Int))] <| kX 10 (.bool (!pceEq x y)) rfl (fun _ _ ww hA => ck hA rfl (by kernel_rfl) (by kernel_rfl) (fl (by kernel_rfl) (run_neq_PCE x.off x.text y.off y.text ww))) ?_
 refine kZ <| kC (!pceEq x y) (fun h10 => ?_) (fun h10 => ?_)
 have hno := sameL_no hx hy (by simpa using h10)
 refine kQ <| aD [4] [(4,aB false)] <| kR ?_
 exact ⟨[.bool false],by kernel_rfl,fun w' hb hf => ⟨aS (show (false : Bool) = bW a b from by first | rfl | (simp [bW, *]; done) | grind [bW,d5]),hb⟩⟩
 have hye : pceEq x y = true := by simpa using h10
 refine kK <| kG <| eo 3 [2,3,5] [(2,.p 0 0),(3,.p 1 0),(5,aI (K6.wrap ((k : Int) + 1)))] <| gd (t' := [(2,.p 0 0),(3,.p 1 0),(5,aI ((k : Int) + 1))]) (by rw [show (K6.wrap ((k : Int) + 1)) = ((k : Int) + 1) from al (by omega) (by omega)]) ?_
 refine aD [2,3,5] [(2,.p 0 0),(3,.p 1 0),(5,aI ((k : Int) + 1))] ?_
 exact ⟨⟨(k + 1),⟨by omega,same_step hx hy hye HK⟩⟩,kF 2 0 [2,3,5],by show a.held.length - (k + 1) < a.held.length - k; omega⟩
 have h6p := of_decide_eq_false h6
 have hge : k = a.held.length := by simp at h6; omega
 have hall := gq hge hlen HK
 refine c5 <| kQ <| aD [4] [(4,aB true)] <| kR ?_
 exact ⟨[.bool true],by kernel_rfl,fun w' hb hf => ⟨aS (show (true : Bool) = bW a b from by first | rfl | (simp [bW, *]; done) | grind [bW,d5]),hb⟩⟩
theorem ysSameConn_c (a : Con) (a_r_heldV : Value) (b : Con) (b_r_heldV : Value) (w : World) (hl_a_r_heldV : Sl w a_r_heldV 2 (a.r.held.map pC)) (hl_b_r_heldV : Sl w b_r_heldV 2 (b.r.held.map pC))  : Calls Try.prog 13 #[.agg (a6 a a_r_heldV).toArray, .agg (a6 b b_r_heldV).toArray] w fun e w' => e = .returned (.bool (dh a b)) ∧ Below w.heap.size w w' := by
 obtain ⟨Aarh,Carh,hvarh⟩ := hl_a_r_heldV.form
 rw [List.length_map] at hvarh; subst hvarh
 have hnarh := hl_a_r_heldV.len; rw [List.length_map] at hnarh
 have hqarh := Sl.capLe hl_a_r_heldV
 obtain ⟨Abrh,Cbrh,hvbrh⟩ := hl_b_r_heldV.form
 rw [List.length_map] at hvbrh; subst hvbrh
 have hnbrh := hl_b_r_heldV.len; rw [List.length_map] at hnbrh
 have hqbrh := Sl.capLe hl_b_r_heldV
 refine cn (args := [.agg (a6 a (cS Aarh a Carh)).toArray,.agg (a6 b (cS Abrh b Cbrh)).toArray]) (fn := Try.f13) [cH Aarh a Carh,cH Abrh b Cbrh] Try.func13 rfl Try.ntmps13 rfl (by simp only [List.mem_cons,List.not_mem_nil,or_false,forall_eq_or_imp,forall_eq]; exact ⟨⟨rfl,hl_a_r_heldV⟩,⟨rfl,hl_b_r_heldV⟩⟩) ?_
 refine kQ <| cv [2,3] ⟨[(2,.p 0 0),(3,.p 1 0)],[⟨50,a6 a (cS Aarh a Carh)⟩,⟨50,a6 b (cS Abrh b Cbrh)⟩],[],[cH Aarh a Carh,cH Abrh b Cbrh]⟩ <| kS <| c7 ⟨[(4,aB ((bG a.t b.t) && ((a.state == b.state) && ((sndEq a.s b.s) && ((bW a.r b.r) && ((a.window == b.window) && ((a.most == b.most) && ((optEq a.o b.o) && ((a.timer == b.timer) && (a.tries == b.tries))))))))))],[⟨50,a6 a (cS Aarh a Carh)⟩,⟨50,a6 b (cS Abrh b Cbrh)⟩],[],[cH Aarh a Carh,cH Abrh b Cbrh]⟩ ?_ ?_
 refine kG <| kOS 4 [2,3,6,8] [(2,.p 0 0),(3,.p 1 0),(6,.v (.agg (bV a.t).toArray)),(8,.v (.agg (bV b.t).toArray))] (.bool (bG a.t b.t)) rfl (fun _ _ _ ww hr => ck hr.1 rfl (by kernel_rfl) (by kernel_rfl) (fl (by kernel_rfl) (fI a.t.ip a.t.port a.t.my b.t.ip b.t.port b.t.my ww))) ?_
 refine eo 1 [2,3,10] [(2,.p 0 0),(3,.p 1 0),(10,aB (bG a.t b.t))] <| kP 10 (bG a.t b.t) (fun h1 => ?_) (fun h1 => ?_)
 refine eo 7 [2,3,17] [(2,.p 0 0),(3,.p 1 0),(17,aB (a.state == b.state))] <| kP 17 (a.state == b.state) (fun h2 => ?_) (fun h2 => ?_)
 have h2p := cN h2
 refine kOS 4 [2,3,17,19,21] [(2,.p 0 0),(3,.p 1 0),(17,aB true),(19,.v (.agg (am a.s).toArray)),(21,.v (.agg (am b.s).toArray))] (.bool (sndEq a.s b.s)) rfl (fun _ _ _ ww hr => ck hr.1 rfl (by kernel_rfl) (by kernel_rfl) (fl (by kernel_rfl) (run_eql_SND a.s.una a.s.data a.s.sent a.s.fin a.s.finSent a.s.done b.s.una b.s.data b.s.sent b.s.fin b.s.finSent b.s.done ww))) ?_
 refine eo 2 [2,3,24] [(2,.p 0 0),(3,.p 1 0),(24,aB (sndEq a.s b.s))] <| kP 24 (sndEq a.s b.s) (fun h3 => ?_) (fun h3 => ?_)
 refine em 4 [2,3,24,26,28] [(2,.p 0 0),(3,.p 1 0),(24,aB true),(26,.v (.agg (ab a.r (cS Aarh a Carh)).toArray)),(28,.v (.agg (ab b.r (cS Abrh b Cbrh)).toArray))] 23 [.agg (ab a.r (cS Aarh a Carh)).toArray,.agg (ab b.r (cS Abrh b Cbrh)).toArray] (some 29) rfl (br fun ww hf => ysSameReceiver_c a.r (cS Aarh a Carh) b.r (cS Abrh b Cbrh) ww (hf _ m0) (hf _ m1) ) ?_
 intro _
 refine eo 2 [2,3,31] [(2,.p 0 0),(3,.p 1 0),(31,aB (bW a.r b.r))] <| kP 31 (bW a.r b.r) (fun h4 => ?_) (fun h4 => ?_)
 refine eo 7 [2,3,38] [(2,.p 0 0),(3,.p 1 0),(38,aB (a.window == b.window))] <| kP 38 (a.window == b.window) (fun h5 => ?_) (fun h5 => ?_)
 have h5p := cN h5
 refine eo 7 [2,3,45] [(2,.p 0 0),(3,.p 1 0),(45,aB (a.most == b.most))] <| kP 45 (a.most == b.most) (fun h6 => ?_) (fun h6 => ?_)
 have h6p := cN h6
 refine kOS 4 [2,3,45,47,49] [(2,.p 0 0),(3,.p 1 0),(45,aB true),(47,.v (.agg (dI a.o).toArray)),(49,.v (.agg (dI b.o).toArray))] (.bool (optEq a.o b.o)) rfl (fun _ _ _ ww hr => ck hr.1 rfl (by kernel_rfl) (by kernel_rfl) (fl (by kernel_rfl) (run_eql_OPT a.o.mss a.o.scale a.o.sack a.o.stamp a.o.val a.o.echo b.o.mss b.o.scale b.o.sack b.o.stamp b.o.val b.o.echo ww))) ?_
 refine eo 2 [2,3,52] [(2,.p 0 0),(3,.p 1 0),(52,aB (optEq a.o b.o))] <| kP 52 (optEq a.o b.o) (fun h7 => ?_) (fun h7 => ?_)
 refine eo 7 [2,3,59] [(2,.p 0 0),(3,.p 1 0),(59,aB (a.timer == b.timer))] <| kP 59 (a.timer == b.timer) (fun h8 => ?_) (fun h8 => ?_)
 have h8p := cN h8
 refine aD [4] [(4,aB (a.tries == b.tries))] ?_
 show Wk _ _
 try rw [h1]
 try rw [h2]
 try rw [h3]
 try rw [h4]
 try rw [h5]
 try rw [h6]
 try rw [h7]
 try rw [h8]
 exact kF 2 0 [4]
 have h8p := cI h8
 refine aD [4] [(4,aB false)] ?_
 show Wk _ _
 try rw [h1]
 try rw [h2]
 try rw [h3]
 try rw [h4]
 try rw [h5]
 try rw [h6]
 try rw [h7]
 try rw [h8]
 exact kF 2 0 [4]
 refine aD [4] [(4,aB false)] ?_
 show Wk _ _
 try rw [h1]
 try rw [h2]
 try rw [h3]
 try rw [h4]
 try rw [h5]
 try rw [h6]
 try rw [h7]
 exact kF 2 0 [4]
 have h6p := cI h6
 refine aD [4] [(4,aB false)] ?_
 show Wk _ _
 try rw [h1]
 try rw [h2]
 try rw [h3]
 try rw [h4]
 try rw [h5]
 try rw [h6]
 exact kF 2 0 [4]
 have h5p := cI h5
 refine aD [4] [(4,aB false)] ?_
 show Wk _ _
 try rw [h1]
 try rw [h2]
 try rw [h3]
 try rw [h4]
 try rw [h5]
 exact kF 2 0 [4]
 refine aD [4] [(4,aB false)] ?_
 show Wk _ _
 try rw [h1]
 try rw [h2]
 try rw [h3]
 try rw [h4]
 exact kF 2 0 [4]
 refine aD [4] [(4,aB false)] ?_
 show Wk _ _
 try rw [h1]
 try rw [h2]
 try rw [h3]
 exact kF 2 0 [4]
 have h2p := cI h2
 refine aD [4] [(4,aB false)] ?_
 show Wk _ _
 try rw [h1]
 try rw [h2]
 exact kF 2 0 [4]
 refine aD [4] [(4,aB false)] ?_
 show Wk _ _
 try rw [h1]
 exact kF 2 0 [4]
 refine kR ?_
 exact ⟨[.bool ((bG a.t b.t) && ((a.state == b.state) && ((sndEq a.s b.s) && ((bW a.r b.r) && ((a.window == b.window) && ((a.most == b.most) && ((optEq a.o b.o) && ((a.timer == b.timer) && (a.tries == b.tries)))))))))],by kernel_rfl,fun w' hb hf => ⟨aS (show ((bG a.t b.t) && ((a.state == b.state) && ((sndEq a.s b.s) && ((bW a.r b.r) && ((a.window == b.window) && ((a.most == b.most) && ((optEq a.o b.o) && ((a.timer == b.timer) && (a.tries == b.tries)))))))) : Bool) = dh a b from by first | rfl | (simp [dh, *]; done) | grind [dh,d5]),hb⟩⟩
theorem l19Fin_c (k : Int) (w : World)  : Calls Try.prog 87 #[iI k] w fun e w' => e = .returned (.bool (decide (k ≠ 1 ∧ k ≠ 4))) ∧ Below w.heap.size w w' := by
 refine cn (args := [iI k]) (fn := Try.f87) [] Try.func87 rfl Try.ntmps87 rfl (by simp) ?_
 refine kQ <| cv [0] ⟨[(0,aI k)],[],[],[]⟩ <| kS <| c7 ⟨[(2,aB ((k != 1) && (k != 4)))],[],[],[]⟩ ?_ ?_
 refine kG <| eo 3 [0,5] [(0,aI k),(5,aB (k != 1))] <| kP 5 (k != 1) (fun h1 => ?_) (fun h1 => ?_)
 have h1p := neT h1
 refine aD [2] [(2,aB (k != 4))] ?_
 show Wk _ _
 try rw [h1]
 exact kF 0 0 [2]
 have h1p := neF h1
 refine aD [2] [(2,aB false)] ?_
 show Wk _ _
 try rw [h1]
 exact kF 0 0 [2]
 refine kR ?_
 exact ⟨[.bool ((k != 1) && (k != 4))],by kernel_rfl,fun w' hb hf => ⟨aS (show ((k != 1) && (k != 4) : Bool) = decide (k ≠ 1 ∧ k ≠ 4) from by first | rfl | (simp [*]; done) | (simp [*]; omega) | grind [bD]),hb⟩⟩
@[simp] theorem inB18_1 : cR 1 1 8 = true := rfl
@[simp] theorem inB18_2 : cR 2 1 8 = true := rfl
@[simp] theorem inB18_3 : cR 3 1 8 = true := rfl
@[simp] theorem inB18_4 : cR 4 1 8 = true := rfl
@[simp] theorem inB18_5 : cR 5 1 8 = true := rfl
@[simp] theorem inB18_6 : cR 6 1 8 = true := rfl
@[simp] theorem inB18_7 : cR 7 1 8 = true := rfl
@[simp] theorem inB18_8 : cR 8 1 8 = true := rfl
theorem dM (c : Con) (rV : Value) (w : World) (hZ : Sl w rV 2 (c.r.held.map pC)) (hm : ∀ p ∈ c.r.held, p.text.size ≤ 1048576) (hsz : c.r.data.size ≤ 4611686018427387904) : Calls Try.prog 58 #[.agg (a6 c rV).toArray] w fun e w' => e = .returned (.bool (aE c)) ∧ Below w.heap.size w w' := by
 obtain ⟨Z,Y,hY⟩ := hZ.form
 rw [List.length_map] at hY; subst hY
 have hJ := hZ.len; rw [List.length_map] at hJ
 have hqcrh := Sl.capLe hZ
 refine cn (args := [.agg (a6 c (cS Z c Y)).toArray]) (fn := Try.f58) [cH Z c Y] Try.func58 rfl Try.ntmps58 rfl (by simp only [List.mem_cons,List.not_mem_nil,or_false,forall_eq_or_imp,forall_eq]; exact ⟨rfl,hZ⟩) ?_
 refine kQ <| cv [1] ⟨[(1,.p 0 0)],[⟨50,a6 c (cS Z c Y)⟩],[],[cH Z c Y]⟩ <| kS <| kS <| c7 ⟨[(1,.p 0 0),(52,aB ((!(eR c.t)) || ((!(aM c.s)) || ((!(rO c.r)) || ((!(bL c.o)) || ((!(cR c.state 1 8)) || ((!(cR c.window 0 c.most)) || ((decide (c.most > 1073725440)) || (!(cR c.tries 0 3))))))))))],[⟨50,a6 c (cS Z c Y)⟩],[],[cH Z c Y]⟩ ?_ ?_
 refine kG <| em 2 [1,7] [(1,.p 0 0),(7,.v (.agg (bV c.t).toArray))] 84 [.agg (bV c.t).toArray] (some 8) rfl (br fun ww hf => sTupleOk_c c.t.ip c.t.port c.t.my ww ) ?_
 intro _
 refine eo 2 [1,10] [(1,.p 0 0),(10,aB (!(eR c.t)))] <| kP 10 (!(eR c.t)) (fun h1 => ?_) (fun h1 => ?_)
 have h1n := co h1
 refine aD [1,52] [(1,.p 0 0),(52,aB true)] ?_
 show Wk _ _
 try rw [h1]
 exact kF 1 0 [1,52]
 have h1n := bj h1
 refine em 2 [1,10,12] [(1,.p 0 0),(10,aB false),(12,.v (.agg (am c.s).toArray))] 85 [.agg (am c.s).toArray] (some 13) rfl (br fun ww hf => et c.s.una c.s.data c.s.sent c.s.fin c.s.finSent c.s.done ww ) ?_
 intro _
 refine eo 3 [1,16] [(1,.p 0 0),(16,aB (!(aM c.s)))] <| kP 16 (!(aM c.s)) (fun h2 => ?_) (fun h2 => ?_)
 have h2n := co h2
 refine aD [1,52] [(1,.p 0 0),(52,aB true)] ?_
 show Wk _ _
 try rw [h1]
 try rw [h2]
 exact kF 1 0 [1,52]
 have h2n := bj h2
 refine em 2 [1,16,18] [(1,.p 0 0),(16,aB false),(18,.v (.agg (ab c.r (cS Z c Y)).toArray))] 86 [.agg (ab c.r (cS Z c Y)).toArray] (some 19) rfl (br fun ww hf => fV c.r (cS Z c Y) ww (hf _ m0) (by assumption) (by omega)) ?_
 intro _
 refine eo 3 [1,22] [(1,.p 0 0),(22,aB (!(rO c.r)))] <| kP 22 (!(rO c.r)) (fun h3 => ?_) (fun h3 => ?_)
 have h3n := co h3
 refine aD [1,52] [(1,.p 0 0),(52,aB true)] ?_
 show Wk _ _
 try rw [h1]
 try rw [h2]
 try rw [h3]
 exact kF 1 0 [1,52]
 have h3n := bj h3
 refine em 2 [1,22,24] [(1,.p 0 0),(22,aB false),(24,.v (.agg (dI c.o).toArray))] 52 [.agg (dI c.o).toArray] (some 25) rfl (br fun ww hf => ge c.o.mss c.o.scale c.o.sack c.o.stamp c.o.val c.o.echo ww ) ?_
 intro _
 refine eo 3 [1,28] [(1,.p 0 0),(28,aB (!(bL c.o)))] <| kP 28 (!(bL c.o)) (fun h4 => ?_) (fun h4 => ?_)
 have h4n := co h4
 refine aD [1,52] [(1,.p 0 0),(52,aB true)] ?_
 show Wk _ _
 try rw [h1]
 try rw [h2]
 try rw [h3]
 try rw [h4]
 exact kF 1 0 [1,52]
 have h4n := bj h4
 refine em 2 [1,28,30] [(1,.p 0 0),(28,aB false),(30,aI c.state)] 83 [iI c.state,iI 1,iI 8] (some 31) rfl (bF fun ww hf => dP c.state 1 8 ww ) ?_
 intro _
 refine eo 3 [1,34] [(1,.p 0 0),(34,aB (!(cR c.state 1 8)))] <| kP 34 (!(cR c.state 1 8)) (fun h5 => ?_) (fun h5 => ?_)
 have h5n := co h5
 refine aD [1,52] [(1,.p 0 0),(52,aB true)] ?_
 show Wk _ _
 try rw [h1]
 try rw [h2]
 try rw [h3]
 try rw [h4]
 try rw [h5]
 exact kF 1 0 [1,52]
 have h5n := bj h5
 refine em 4 [1,34,36,38] [(1,.p 0 0),(34,aB false),(36,aI c.window),(38,aI c.most)] 83 [iI c.window,iI 0,iI c.most] (some 39) rfl (bF fun ww hf => dP c.window 0 c.most ww ) ?_
 intro _
 refine eo 3 [1,42] [(1,.p 0 0),(42,aB (!(cR c.window 0 c.most)))] <| kP 42 (!(cR c.window 0 c.most)) (fun h6 => ?_) (fun h6 => ?_)
 have h6n := co h6
 refine aD [1,52] [(1,.p 0 0),(52,aB true)] ?_
 show Wk _ _
 try rw [h1]
 try rw [h2]
 try rw [h3]
 try rw [h4]
 try rw [h5]
 try rw [h6]
 exact kF 1 0 [1,52]
 have h6n := bj h6
 refine eo 5 [1,47] [(1,.p 0 0),(47,aB (decide (c.most > 1073725440)))] <| kP 47 (decide (c.most > 1073725440)) (fun h7 => ?_) (fun h7 => ?_)
 have h7p := of_decide_eq_true h7
 refine aD [1,52] [(1,.p 0 0),(52,aB true)] ?_
 show Wk _ _
 try rw [h1]
 try rw [h2]
 try rw [h3]
 try rw [h4]
 try rw [h5]
 try rw [h6]
 try rw [h7]
 exact kF 1 0 [1,52]
 have h7p := of_decide_eq_false h7
 refine em 2 [1,47,49] [(1,.p 0 0),(47,aB false),(49,aI c.tries)] 83 [iI c.tries,iI 0,iI 3] (some 50) rfl (bF fun ww hf => dP c.tries 0 3 ww ) ?_
 intro _
 refine aD [1,52] [(1,.p 0 0),(52,aB (!(cR c.tries 0 3)))] ?_
 show Wk _ _
 try rw [h1]
 try rw [h2]
 try rw [h3]
 try rw [h4]
 try rw [h5]
 try rw [h6]
 try rw [h7]
 exact kF 1 0 [1,52]
 refine kC ((!(eR c.t)) || ((!(aM c.s)) || ((!(rO c.r)) || ((!(bL c.o)) || ((!(cR c.state 1 8)) || ((!(cR c.window 0 c.most)) || ((decide (c.most > 1073725440)) || (!(cR c.tries 0 3))))))))) (fun h8 => ?_) (fun h8 => ?_)
 refine kQ <| aD [2] [(2,aB false)] <| kR ?_
 exact ⟨[.bool false],by kernel_rfl,fun w' hb hf => ⟨aS (show (false : Bool) = aE c from by first | rfl | (simp [aE,dH,ea,d7, *]; done) | (clear hm hf hb; simp_all [aE,dH,ea,d7]; done) | grind [aE,dH,ea,d7,cR]),hb⟩⟩
 have h8l := gn h8
 have h8ln := bj h8l
 have h8r := gj h8
 have h8rl := gn h8r
 have h8rln := bj h8rl
 have h8rr := gj h8r
 have h8rrl := gn h8rr
 have h8rrln := bj h8rrl
 have h8rrr := gj h8rr
 have h8rrrl := gn h8rrr
 have h8rrrln := bj h8rrrl
 have h8rrrr := gj h8rrr
 have h8rrrrl := gn h8rrrr
 have h8rrrrln := bj h8rrrrl
 have h8rrrrr := gj h8rrrr
 have h8rrrrrl := gn h8rrrrr
 have h8rrrrrln := bj h8rrrrrl
 have h8rrrrrr := gj h8rrrrr
 have h8rrrrrrl := gn h8rrrrrr
 have h8rrrrrrr := gj h8rrrrrr
 have h8rrrrrrrn := bj h8rrrrrrr
 refine kK <| kQ <| aD [1,3] [(1,.p 0 0),(3,aI 3)] <| kS <| kQ <| aD [1,3,55] [(1,.p 0 0),(3,aI 3),(55,aB (c.state == 7))] ?_
 refine c7 ⟨[(1,.p 0 0),(3,aI (if (c.state == 7) = true then 4 else 3))],[⟨50,a6 c (cS Z c Y)⟩],[],[cH Z c Y]⟩ ?_ ?_
 refine kC (c.state == 7) (fun h9 => ?_) (fun h9 => ?_)
 have h9p := cN h9
 refine kG <| aD [1,3] [(1,.p 0 0),(3,aI 4)] ?_
 show Wk _ _; rw [h9]; exact kF 1 0 [1,3]
 have h9p := cI h9
 refine kK ?_
 show Wk _ _; rw [h9]; exact kF 1 0 [1,3]
 refine kS <| kQ <| em 3 [1,57,58] [(1,.p 0 0),(57,aI c.timer),(58,aI (if (c.state == 7) = true then 4 else 3))] 83 [iI c.timer,iI 0,iI (if (c.state == 7) = true then 4 else 3)] (some 59) rfl (bF fun ww hf => dP c.timer 0 (if (c.state == 7) = true then 4 else 3) ww ) ?_
 intro _
 refine aD [1,60] [(1,.p 0 0),(60,aB (!(cR c.timer 0 (if (c.state == 7) = true then 4 else 3))))] <| kC (!(cR c.timer 0 (if (c.state == 7) = true then 4 else 3))) (fun h10 => ?_) (fun h10 => ?_)
 have h10n := co h10
 have h10np := h10n; simp only [beq_iff_eq,bne_iff_ne,beq_eq_false_iff_ne,bne_eq_false_iff_eq,ne_eq,bD] at h10np
 refine kQ <| aD [2] [(2,aB false)] <| kR ?_
 exact ⟨[.bool false],by kernel_rfl,fun w' hb hf => ⟨aS (show (false : Bool) = aE c from by first | rfl | (simp [aE,dH,ea,d7, *]; done) | (clear hm hf hb; simp_all [aE,dH,ea,d7]; done) | grind [aE,dH,ea,d7,cR]),hb⟩⟩
 have h10n := bj h10
 have h10np := h10n; simp only [beq_iff_eq,bne_iff_ne,beq_eq_false_iff_ne,bne_eq_false_iff_eq,ne_eq,bD] at h10np
 refine kK <| kS <| kQ <| aD [1,63] [(1,.p 0 0),(63,aB (c.state == 8))] ?_
 refine kC (c.state == 8) (fun h11 => ?_) (fun h11 => ?_)
 have h11p := cN h11
 refine kQ <| aD [2] [(2,aB true)] <| kR ?_
 exact ⟨[.bool true],by kernel_rfl,fun w' hb hf => ⟨aS (show (true : Bool) = aE c from by first | rfl | (simp [aE,dH,ea,d7, *]; done) | (clear hm hf hb; simp_all [aE,dH,ea,d7]; done) | grind [aE,dH,ea,d7,cR]),hb⟩⟩
 have h11p := cI h11
 refine kK <| kS <| c7 ⟨[(1,.p 0 0),(4,aB ((c.state == 3) || (c.state == 7)))],[⟨50,a6 c (cS Z c Y)⟩],[],[cH Z c Y]⟩ ?_ ?_
 refine kG <| eo 4 [1,67] [(1,.p 0 0),(67,aB (c.state == 3))] <| kP 67 (c.state == 3) (fun h12 => ?_) (fun h12 => ?_)
 have h12p := cN h12
 refine aD [1,4] [(1,.p 0 0),(4,aB true)] ?_
 show Wk _ _
 try rw [h12]
 exact kF 1 0 [1,4]
 have h12p := cI h12
 refine aD [1,4] [(1,.p 0 0),(4,aB (c.state == 7))] ?_
 show Wk _ _
 try rw [h12]
 exact kF 1 0 [1,4]
 refine kS <| c7 ⟨[(1,.p 0 0),(4,aB ((c.state == 3) || (c.state == 7))),(5,aB ((c.state == 4) || (decide (c.state ≥ 5))))],[⟨50,a6 c (cS Z c Y)⟩],[],[cH Z c Y]⟩ ?_ ?_
 refine kG <| eo 4 [1,4,75] [(1,.p 0 0),(4,aB ((c.state == 3) || (c.state == 7))),(75,aB (c.state == 4))] <| kP 75 (c.state == 4) (fun h13 => ?_) (fun h13 => ?_)
 have h13p := cN h13
 refine aD [1,4,5] [(1,.p 0 0),(4,aB ((c.state == 3) || (c.state == 7))),(5,aB true)] ?_
 show Wk _ _
 try rw [h13]
 exact kF 1 0 [1,4,5]
 have h13p := cI h13
 refine aD [1,4,5] [(1,.p 0 0),(4,aB ((c.state == 3) || (c.state == 7))),(5,aB (decide (c.state ≥ 5)))] ?_
 show Wk _ _
 try rw [h13]
 exact kF 1 0 [1,4,5]
 refine kS <| c7 ⟨[(2,aB ((c.s.fin == (decide (c.state ≠ 1 ∧ c.state ≠ 4))) && ((c.s.done == ((c.state == 3) || (c.state == 7))) && (c.r.done == ((c.state == 4) || (decide (c.state ≥ 5)))))))],[⟨50,a6 c (cS Z c Y)⟩],[],[cH Z c Y]⟩ ?_ ?_
 refine bY [] (by kernel_rfl) (fun ρ σ => ?_)
 refine cK [0,1,2,3,4] [84,82,1,4,5] 17 [(84,aI c.state),(82,aB c.s.fin),(1,.p 0 0),(4,aB ((c.state == 3) || (c.state == 7))),(5,aB ((c.state == 4) || (decide (c.state ≥ 5))))] <| kA [5] <| d8 5 87 [iI c.state] (some 85) rfl (br fun ww hf => l19Fin_c c.state ww ) ?_
 intro _
 refine cK [6,7] [87,1,4,5] 14 [(87,aB (c.s.fin == (decide (c.state ≠ 1 ∧ c.state ≠ 4)))),(1,.p 0 0),(4,aB ((c.state == 3) || (c.state == 7))),(5,aB ((c.state == 4) || (decide (c.state ≥ 5))))] <| kY 87 (c.s.fin == (decide (c.state ≠ 1 ∧ c.state ≠ 4))) (fun h14 => ?_) (fun h14 => ?_)
 have h14p := cN h14
 refine cK [8,9,10,11,12,13,14] [94,1,5] 7 [(94,aB (c.s.done == ((c.state == 3) || (c.state == 7)))),(1,.p 0 0),(5,aB ((c.state == 4) || (decide (c.state ≥ 5))))] <| kY 94 (c.s.done == ((c.state == 3) || (c.state == 7))) (fun h15 => ?_) (fun h15 => ?_)
 have h15p := cN h15
 refine cK [15,16,17,18,19,20,21] [2] 0 [(2,aB (c.r.done == ((c.state == 4) || (decide (c.state ≥ 5)))))] <| kZ ?_
 show Wk _ _
 try rw [h14]
 try rw [h15]
 exact kF 1 0 [2]
 have h15p := cI h15
 refine cK [15,16,17,18,19,20,21] [2] 0 [(2,aB false)] <| kZ ?_
 show Wk _ _
 try rw [h14]
 try rw [h15]
 exact kF 1 0 [2]
 have h14p := cI h14
 refine cK [8,9,10,11,12,13,14,15,16,17,18,19,20,21] [2] 0 [(2,aB false)] <| kZ ?_
 show Wk _ _
 try rw [h14]
 exact kF 1 0 [2]
 refine kR ?_
 exact ⟨[.bool ((c.s.fin == (decide (c.state ≠ 1 ∧ c.state ≠ 4))) && ((c.s.done == ((c.state == 3) || (c.state == 7))) && (c.r.done == ((c.state == 4) || (decide (c.state ≥ 5))))))],by kernel_rfl,fun w' hb hf => ⟨aS (show ((c.s.fin == (decide (c.state ≠ 1 ∧ c.state ≠ 4))) && ((c.s.done == ((c.state == 3) || (c.state == 7))) && (c.r.done == ((c.state == 4) || (decide (c.state ≥ 5))))) : Bool) = aE c from by first | rfl | (simp [aE,dH,ea,d7, *]; done) | (clear hm hf hb; simp_all [aE,dH,ea,d7]; done) | grind [aE,dH,ea,d7,cR]),hb⟩⟩
theorem ysWaits_c (c : Con) (rV : Value) (w : World) (hZ : Sl w rV 2 (c.r.held.map pC)) (hm : ∀ p ∈ c.r.held, p.text.size ≤ 1048576) (hsz : c.r.data.size ≤ 4611686018427387904) : Calls Try.prog 61 #[.agg (a6 c rV).toArray] w fun e w' => e = .returned (.bool (waits c)) ∧ Below w.heap.size w w' := by
 obtain ⟨Z,Y,hY⟩ := hZ.form
 rw [List.length_map] at hY; subst hY
 have hJ := hZ.len; rw [List.length_map] at hJ
 have hqcrh := Sl.capLe hZ
 refine cn (args := [.agg (a6 c (cS Z c Y)).toArray]) (fn := Try.f61) [cH Z c Y] Try.func61 rfl Try.ntmps61 rfl (by simp only [List.mem_cons,List.not_mem_nil,or_false,forall_eq_or_imp,forall_eq]; exact ⟨rfl,hZ⟩) ?_
 refine kQ <| cv [1] ⟨[(1,.p 0 0)],[⟨50,a6 c (cS Z c Y)⟩],[],[cH Z c Y]⟩ <| kS <| c7 ⟨[(2,aB ((aE c) && ((c.state == 7) || ((c.state != 8) && (gw c)))))],[⟨50,a6 c (cS Z c Y)⟩],[],[cH Z c Y]⟩ ?_ ?_
 refine kG <| em 1 [1,3] [(1,.p 0 0),(3,.v (.agg (a6 c (cS Z c Y)).toArray))] 58 [.agg (a6 c (cS Z c Y)).toArray] (some 4) rfl (br fun ww hf => dM c (cS Z c Y) ww (hf _ m0) (by assumption) (by omega)) ?_
 intro _
 refine eo 1 [1,5] [(1,.p 0 0),(5,aB (aE c))] <| kP 5 (aE c) (fun h1 => ?_) (fun h1 => ?_)
 refine eo 4 [1,5,9] [(1,.p 0 0),(5,aB true),(9,aB (c.state == 7))] <| kP 9 (c.state == 7) (fun h2 => ?_) (fun h2 => ?_)
 have h2p := cN h2
 refine aD [2] [(2,aB true)] ?_
 show Wk _ _
 try rw [h1]
 try rw [h2]
 exact kF 1 0 [2]
 have h2p := cI h2
 refine eo 4 [1,5,9,13] [(1,.p 0 0),(5,aB true),(9,aB false),(13,aB (c.state != 8))] <| kP 13 (c.state != 8) (fun h3 => ?_) (fun h3 => ?_)
 have h3p := neT h3
 refine em 1 [5,9,13,14] [(5,aB true),(9,aB false),(13,aB true),(14,.v (.agg (a6 c (cS Z c Y)).toArray))] 90 [.agg (a6 c (cS Z c Y)).toArray] (some 15) rfl (br fun ww hf => ysUnsent_c c (cS Z c Y) ww ) ?_
 intro _
 refine aD [2] [(2,aB (gw c))] ?_
 show Wk _ _
 try rw [h1]
 try rw [h2]
 try rw [h3]
 exact kF 1 0 [2]
 have h3p := neF h3
 refine aD [2] [(2,aB false)] ?_
 show Wk _ _
 try rw [h1]
 try rw [h2]
 try rw [h3]
 exact kF 1 0 [2]
 refine aD [2] [(2,aB false)] ?_
 show Wk _ _
 try rw [h1]
 exact kF 1 0 [2]
 refine kR ?_
 exact ⟨[.bool ((aE c) && ((c.state == 7) || ((c.state != 8) && (gw c))))],by kernel_rfl,fun w' hb hf => ⟨aS (show ((aE c) && ((c.state == 7) || ((c.state != 8) && (gw c))) : Bool) = waits c from by first | rfl | (simp [waits, *]; done) | grind [waits]),hb⟩⟩
def bU (x : Tab) (x_connsV : Value) (x_waitingV : Value) : List Value := [x_connsV, x_waitingV]
theorem ysFindConn_c (t : Tab) (t_connsV : Value) (t_waitingV : Value) (u : Tup) (w : World) (hl_t_connsV : Sl w t_connsV 25 (t.conns.map ak)) (hh_t_connsV : ∀ x ∈ t.conns, Sl w x.2 2 (x.1.r.held.map pC)) (hl_t_waitingV : Sl w t_waitingV 3 (t.waiting.map a8))  : Calls Try.prog 76 #[.agg (bU t t_connsV t_waitingV).toArray, .agg (bV u).toArray] w fun e w' => e = .returned (iI (bS t u)) ∧ Below w.heap.size w w' := by
 obtain ⟨Atc,Ctc,hvtc⟩ := hl_t_connsV.form
 rw [List.length_map] at hvtc; subst hvtc
 have hntc := hl_t_connsV.len; rw [List.length_map] at hntc
 have hqtc := Sl.capLe hl_t_connsV
 obtain ⟨Atw,Ctw,hvtw⟩ := hl_t_waitingV.form
 rw [List.length_map] at hvtw; subst hvtw
 have hntw := hl_t_waitingV.len; rw [List.length_map] at hntw
 have hqtw := Sl.capLe hl_t_waitingV
 refine cn (args := [.agg (bU t (.slice Atc t.conns.length Ctc) (.slice Atw t.waiting.length Ctw)).toArray,.agg (bV u).toArray]) (fn := Try.f76) [bz (.slice Atc t.conns.length Ctc) 25 (t.conns.map ak),dV t.conns,bz (.slice Atw t.waiting.length Ctw) 3 (t.waiting.map a8)] Try.func76 rfl Try.ntmps76 rfl (by simp only [List.mem_cons,List.not_mem_nil,or_false,forall_eq_or_imp,forall_eq]; exact ⟨⟨rfl,hl_t_connsV⟩,⟨rfl,hh_t_connsV⟩,⟨rfl,hl_t_waitingV⟩⟩) ?_
 refine kQ <| cv [2,3] ⟨[(2,.p 0 0),(3,.p 1 0)],[⟨27,bU t (.slice Atc t.conns.length Ctc) (.slice Atw t.waiting.length Ctw)⟩,⟨30,bV u⟩],[],[bz (.slice Atc t.conns.length Ctc) 25 (t.conns.map ak),dV t.conns,bz (.slice Atw t.waiting.length Ctw) 3 (t.waiting.map a8)]⟩ <| kS <| kQ <| aU [2,3,5] [(5,aI 0)] ?_
 refine aj <| bI (α := {x : Nat // (fun (k : Nat) => k ≤ t.conns.length ∧ ∀ (i : Nat) (h' : CV),i < k → t.conns[i]? = some h' → bG h'.1.t u = false) x}) (fun x => (fun (k : Nat) => (⟨[(2,.p 0 0),(3,.p 1 0),(5,aI (k : Int))],[⟨27,bU t (.slice Atc t.conns.length Ctc) (.slice Atw t.waiting.length Ctw)⟩,⟨30,bV u⟩],[],[bz (.slice Atc t.conns.length Ctc) 25 (t.conns.map ak),dV t.conns,bz (.slice Atw t.waiting.length Ctw) 3 (t.waiting.map a8)]⟩ : St)) x.1) (fun x => t.conns.length - x.1) ⟨(0),⟨Nat.zero_le _,fun i x hi => by omega⟩⟩ (kF 2 0 [2,3,5]) ?_
 rintro ⟨k,hk,HK⟩
 try dsimp only
 try dsimp only at hk HK
 refine kS <| kQ <| aU [2,3,5,10] [(10,aB (decide ((k : Int) < ((t.conns.length : Nat) : Int))))] <| kC (decide ((k : Int) < ((t.conns.length : Nat) : Int))) (fun h1 => ?_) (fun h1 => ?_)
 have h1p := of_decide_eq_true h1
 have hlt : k < t.conns.length := by simpa using h1
 obtain ⟨x0,hx⟩ : ∃ x,t.conns[k]? = some x := ⟨_,List.getElem?_eq_getElem hlt⟩
 obtain ⟨x,xa,xc,rfl⟩ := gi (hh_t_connsV x0 (List.mem_of_getElem? hx))
 refine kK <| kS <| aj <| kS <| d4 ?_
 refine dm (K := 25) (j := k) [iI x.t.ip,iI x.t.port,iI x.t.my,iI x.state,iI x.s.una,.string x.s.data,iI x.s.sent,.bool x.s.fin,.bool x.s.finSent,.bool x.s.done,iI x.r.next,.string x.r.data,.slice xa x.r.held.length xc,iI x.r.fin,.bool x.r.done,iI x.window,iI x.most,iI x.o.mss,iI x.o.scale,.bool x.o.sack,.bool x.o.stamp,iI x.o.val,iI x.o.echo,iI x.timer,iI x.tries] (bz (.slice Atc t.conns.length Ctc) 25 (t.conns.map ak)) (fun _ _ h => h) (by simp) (fun w h => h) (fun b h => h) (by simp only [List.getElem?_map,hx]; rfl) (fun bq2 offq2 hAq2 => ?_)
 refine cl [] (by kernel_rfl) (fun ρ σ hq3 => ?_)
 refine d3 [0,1,2,6] [19,15,14,2,3,5] 4 [(19,.v (.agg (bV u).toArray)),(15,aI (k : Int)),(14,.v (.slice Atc t.conns.length Ctc))] <| cO (kd := .i64) (T := 24) (e := 50) (K := 25) (j := k) (A := Atc) (len := t.conns.length) (cap := Ctc) 3 0 _ rfl (by kernel_rfl) (by kernel_rfl) (by kernel_rfl) (fun _ _ h => h) (by kernel_rfl) rfl rfl (by kernel_rfl) (by kernel_rfl) (by kernel_rfl) (by kernel_rfl) hlt hAq2 hq3.2 (by kernel_rfl) rfl ?_
 refine d3 [4,5] [18,19,2,3,5] 1 [(18,.v (.agg (bV x.t).toArray))] <| kX 7 (.bool (bG x.t u)) rfl (fun _ _ ww hA => ck hA rfl (by kernel_rfl) (by kernel_rfl) (fl (by kernel_rfl) (fI x.t.ip x.t.port x.t.my u.ip u.port u.my ww))) ?_
 refine kZ <| kC (bG x.t u) (fun h4 => ?_) (fun h4 => ?_)
 have hfd := findConn_eq hx (by exact h4) HK
 refine kQ <| aD [4] [(4,aI (k : Int))] <| kR ?_
 exact ⟨[iI (k : Int)],by kernel_rfl,fun w' hb hf => ⟨ret_int (show ((k : Int) : Int) = bS t u from by first | exact hfd.symm | exact hfn.symm),hb⟩⟩
 have hq : bG x.t u = false := by exact h4
 refine kK <| kG <| dK 3 [2,3,5] [(5,aI (K6.wrap ((k : Int) + 1)))] <| cJ [2,3,5] [(5,aI (K6.wrap ((k : Int) + 1)))] [(5,aI ((k : Int) + 1))] (by rw [show (K6.wrap ((k : Int) + 1)) = ((k : Int) + 1) from al (by omega) (by omega)]) (by kernel_rfl) ?_
 refine aU [2,3,5] [] ?_
 exact ⟨⟨(k + 1),⟨by omega,no_step (p := fun c : CV => bG c.1.t u) hx hq HK⟩⟩,kF 2 0 [2,3,5],by show t.conns.length - (k + 1) < t.conns.length - k; omega⟩
 have h1p := of_decide_eq_false h1
 have hge : k = t.conns.length := by simp at h1; omega
 have hfn := findConn_no hge HK
 refine c5 <| kQ <| aD [4] [(4,aI (-1))] <| kR ?_
 exact ⟨[iI (-1)],by kernel_rfl,fun w' hb hf => ⟨ret_int (show ((-1) : Int) = bS t u from by first | exact hfd.symm | exact hfn.symm),hb⟩⟩
def aO (a b : Tab) : Bool := fF (fun x y : CV => dh x.1 y.1) a.conns b.conns && fF bG a.waiting b.waiting
theorem sameTable_pl {a a' b b' : Tab} (h : pl a.conns = pl a'.conns) (hw : a.waiting = a'.waiting) (h2 : pl b.conns = pl b'.conns) (hw2 : b.waiting = b'.waiting) : aO a b = aO a' b' := by
 unfold aO; rw [sameL_pl,sameL_pl,h,h2,hw,hw2]
theorem yl25Waits_c (l : List Tup) (lV : Value) (u : Tup) (w : World) (hl_lV : Sl w lV 3 (l.map a8))  : Calls Try.prog 77 #[lV, .agg (bV u).toArray] w fun e w' => e = .returned (.bool (eG l u)) ∧ Below w.heap.size w w' := by
 obtain ⟨Al,Cl,hvl⟩ := hl_lV.form
 rw [List.length_map] at hvl; subst hvl
 have hnl := hl_lV.len; rw [List.length_map] at hnl
 have hql := Sl.capLe hl_lV
 refine cn (args := [.slice Al l.length Cl,.agg (bV u).toArray]) (fn := Try.f77) [bz (.slice Al l.length Cl) 3 (l.map a8)] Try.func77 rfl Try.ntmps77 rfl (by simp only [List.mem_cons,List.not_mem_nil,or_false,forall_eq_or_imp,forall_eq]; exact ⟨rfl,hl_lV⟩) ?_
 refine kQ <| cv [0,3] ⟨[(0,.v (.slice Al l.length Cl)),(3,.p 0 0)],[⟨30,bV u⟩],[],[bz (.slice Al l.length Cl) 3 (l.map a8)]⟩ <| kS <| kQ <| aU [0,3,5] [(5,aI 0)] ?_
 refine aj <| bI (α := {x : Nat // (fun (k : Nat) => k ≤ l.length ∧ ∀ (i : Nat) (h' : Tup),i < k → l[i]? = some h' → bG h' u = false) x}) (fun x => (fun (k : Nat) => (⟨[(0,.v (.slice Al l.length Cl)),(3,.p 0 0),(5,aI (k : Int))],[⟨30,bV u⟩],[],[bz (.slice Al l.length Cl) 3 (l.map a8)]⟩ : St)) x.1) (fun x => l.length - x.1) ⟨(0),⟨Nat.zero_le _,fun i x hi => by omega⟩⟩ (kF 1 0 [0,3,5]) ?_
 rintro ⟨k,hk,HK⟩
 try dsimp only
 try dsimp only at hk HK
 refine kS <| kQ <| aU [0,3,5,9] [(9,aB (decide ((k : Int) < ((l.length : Nat) : Int))))] <| kC (decide ((k : Int) < ((l.length : Nat) : Int))) (fun h1 => ?_) (fun h1 => ?_)
 have h1p := of_decide_eq_true h1
 have hlt : k < l.length := by simpa using h1
 obtain ⟨x,hx⟩ : ∃ x,l[k]? = some x := ⟨_,List.getElem?_eq_getElem hlt⟩
 refine kK <| kS <| aj <| kS <| d4 ?_
 refine dm (K := 3) (j := k) [iI x.ip,iI x.port,iI x.my] (bz (.slice Al l.length Cl) 3 (l.map a8)) (fun _ _ h => h) (by simp) (fun w h => h) (fun b h => h) (by simp only [List.getElem?_map,hx]; rfl) (fun bq2 offq2 hAq2 => ?_)
 refine cl [] (by kernel_rfl) (fun ρ σ hq3 => ?_)
 refine d3 [0,1,4] [16,13,12,0,3,5] 3 [(16,.v (.agg (bV u).toArray)),(13,aI (k : Int)),(12,.v (.slice Al l.length Cl))] <| cO (kd := .i64) (T := 25) (e := 30) (K := 3) (j := k) (A := Al) (len := l.length) (cap := Cl) 2 0 _ rfl (by kernel_rfl) (by kernel_rfl) (by kernel_rfl) (fun _ _ h => h) (by kernel_rfl) rfl rfl (by kernel_rfl) (by kernel_rfl) (by kernel_rfl) (by kernel_rfl) hlt hAq2 hq3.2 (by kernel_rfl) rfl ?_
 refine d3 [3] [15,16,0,3,5] 1 [(15,.v (.agg (bV x).toArray))] <| kX 5 (.bool (bG x u)) rfl (fun _ _ ww hA => ck hA rfl (by kernel_rfl) (by kernel_rfl) (fl (by kernel_rfl) (fI x.ip x.port x.my u.ip u.port u.my ww))) ?_
 refine kZ <| kC (bG x u) (fun h4 => ?_) (fun h4 => ?_)
 have hfd := (fun a b (_ : ∀ (i : Nat) (h' : Tup),i < k → l[i]? = some h' → bG h' u = false) => isWait_yes (l := l) (k := k) a b) hx (by exact h4) HK
 refine kQ <| aD [4] [(4,aB true)] <| kR ?_
 exact ⟨[.bool true],by kernel_rfl,fun w' hb hf => ⟨aS (show (true : Bool) = eG l u from by first | exact hfd.symm | exact hfn.symm),hb⟩⟩
 have hq : bG x u = false := by exact h4
 refine kK <| kG <| dK 3 [0,3,5] [(5,aI (K6.wrap ((k : Int) + 1)))] <| cJ [0,3,5] [(5,aI (K6.wrap ((k : Int) + 1)))] [(5,aI ((k : Int) + 1))] (by rw [show (K6.wrap ((k : Int) + 1)) = ((k : Int) + 1) from al (by omega) (by omega)]) (by kernel_rfl) ?_
 refine aU [0,3,5] [] ?_
 exact ⟨⟨(k + 1),⟨by omega,no_step (p := fun c : Tup => bG c u) hx hq HK⟩⟩,kF 1 0 [0,3,5],by show l.length - (k + 1) < l.length - k; omega⟩
 have h1p := of_decide_eq_false h1
 have hge : k = l.length := by simp at h1; omega
 have hfn := isWait_no hge HK
 refine c5 <| kQ <| aD [4] [(4,aB false)] <| kR ?_
 exact ⟨[.bool false],by kernel_rfl,fun w' hb hf => ⟨aS (show (false : Bool) = eG l u from by first | exact hfd.symm | exact hfn.symm),hb⟩⟩
theorem ysLimitsOk_c (l : Lim) (w : World)  : Calls Try.prog 75 #[.agg (bA l).toArray] w fun e w' => e = .returned (.bool (eN l)) ∧ Below w.heap.size w w' := by
 refine cn (args := [.agg (bA l).toArray]) (fn := Try.f75) [] Try.func75 rfl Try.ntmps75 rfl (by simp) ?_
 refine kQ <| cv [1] ⟨[(1,.p 0 0)],[⟨35,bA l⟩],[],[]⟩ <| kS <| c7 ⟨[(2,aB ((cR l.halves 1 64) && ((cR l.waiting 1 16) && ((cR l.conns 1 16) && (cR l.chal 0 1000)))))],[⟨35,bA l⟩],[],[]⟩ ?_ ?_
 refine kG <| em 2 [1,4] [(1,.p 0 0),(4,aI l.halves)] 83 [iI l.halves,iI 1,iI 64] (some 5) rfl (bF fun ww hf => dP l.halves 1 64 ww ) ?_
 intro _
 refine eo 1 [1,6] [(1,.p 0 0),(6,aB (cR l.halves 1 64))] <| kP 6 (cR l.halves 1 64) (fun h1 => ?_) (fun h1 => ?_)
 have h1i := inB_tt.1 (show cR l.halves 1 64 = true from by simpa using h1)
 refine em 2 [1,6,8] [(1,.p 0 0),(6,aB true),(8,aI l.waiting)] 83 [iI l.waiting,iI 1,iI 16] (some 9) rfl (bF fun ww hf => dP l.waiting 1 16 ww ) ?_
 intro _
 refine eo 2 [1,11] [(1,.p 0 0),(11,aB (cR l.waiting 1 16))] <| kP 11 (cR l.waiting 1 16) (fun h2 => ?_) (fun h2 => ?_)
 have h2i := inB_tt.1 (show cR l.waiting 1 16 = true from by simpa using h2)
 refine em 2 [1,11,13] [(1,.p 0 0),(11,aB true),(13,aI l.conns)] 83 [iI l.conns,iI 1,iI 16] (some 14) rfl (bF fun ww hf => dP l.conns 1 16 ww ) ?_
 intro _
 refine eo 2 [1,16] [(1,.p 0 0),(16,aB (cR l.conns 1 16))] <| kP 16 (cR l.conns 1 16) (fun h3 => ?_) (fun h3 => ?_)
 have h3i := inB_tt.1 (show cR l.conns 1 16 = true from by simpa using h3)
 refine em 2 [16,18] [(16,aB true),(18,aI l.chal)] 83 [iI l.chal,iI 0,iI 1000] (some 19) rfl (bF fun ww hf => dP l.chal 0 1000 ww ) ?_
 intro _
 refine aD [2] [(2,aB (cR l.chal 0 1000))] ?_
 show Wk _ _
 try rw [h1]
 try rw [h2]
 try rw [h3]
 exact kF 1 0 [2]
 have h3i := inB_ff.1 (show cR l.conns 1 16 = false from by simpa using h3)
 refine aD [2] [(2,aB false)] ?_
 show Wk _ _
 try rw [h1]
 try rw [h2]
 try rw [h3]
 exact kF 1 0 [2]
 have h2i := inB_ff.1 (show cR l.waiting 1 16 = false from by simpa using h2)
 refine aD [2] [(2,aB false)] ?_
 show Wk _ _
 try rw [h1]
 try rw [h2]
 exact kF 1 0 [2]
 have h1i := inB_ff.1 (show cR l.halves 1 64 = false from by simpa using h1)
 refine aD [2] [(2,aB false)] ?_
 show Wk _ _
 try rw [h1]
 exact kF 1 0 [2]
 refine kR ?_
 exact ⟨[.bool ((cR l.halves 1 64) && ((cR l.waiting 1 16) && ((cR l.conns 1 16) && (cR l.chal 0 1000))))],by kernel_rfl,fun w' hb hf => ⟨aS (show ((cR l.halves 1 64) && ((cR l.waiting 1 16) && ((cR l.conns 1 16) && (cR l.chal 0 1000))) : Bool) = eN l from by first | rfl | (simp [eN, *]; done) | grind [eN]),hb⟩⟩
theorem ysTableOk_c (t : Tab) (t_connsV : Value) (t_waitingV : Value) (l : Lim) (w : World) (hl_t_connsV : Sl w t_connsV 25 (t.conns.map ak)) (hh_t_connsV : ∀ x ∈ t.conns, Sl w x.2 2 (x.1.r.held.map pC)) (hl_t_waitingV : Sl w t_waitingV 3 (t.waiting.map a8)) (hfit : ∀ x ∈ t.conns, bO x.1) : Calls Try.prog 45 #[.agg (bU t t_connsV t_waitingV).toArray, .agg (bA l).toArray] w fun e w' => e = .returned (.bool (bB t l)) ∧ Below w.heap.size w w' := by
 obtain ⟨Atc,Ctc,hvtc⟩ := hl_t_connsV.form
 rw [List.length_map] at hvtc; subst hvtc
 have hntc := hl_t_connsV.len; rw [List.length_map] at hntc
 have hqtc := Sl.capLe hl_t_connsV
 obtain ⟨Atw,Ctw,hvtw⟩ := hl_t_waitingV.form
 rw [List.length_map] at hvtw; subst hvtw
 have hntw := hl_t_waitingV.len; rw [List.length_map] at hntw
 have hqtw := Sl.capLe hl_t_waitingV
 refine cn (args := [.agg (bU t (.slice Atc t.conns.length Ctc) (.slice Atw t.waiting.length Ctw)).toArray,.agg (bA l).toArray]) (fn := Try.f45) [bz (.slice Atc t.conns.length Ctc) 25 (t.conns.map ak),dV t.conns,bz (.slice Atw t.waiting.length Ctw) 3 (t.waiting.map a8)] Try.func45 rfl Try.ntmps45 rfl (by simp only [List.mem_cons,List.not_mem_nil,or_false,forall_eq_or_imp,forall_eq]; exact ⟨⟨rfl,hl_t_connsV⟩,⟨rfl,hh_t_connsV⟩,⟨rfl,hl_t_waitingV⟩⟩) ?_
 refine kQ <| cv [2,3] ⟨[(2,.p 0 0),(3,.p 1 0)],[⟨27,bU t (.slice Atc t.conns.length Ctc) (.slice Atw t.waiting.length Ctw)⟩,⟨35,bA l⟩],[],[bz (.slice Atc t.conns.length Ctc) 25 (t.conns.map ak),dV t.conns,bz (.slice Atw t.waiting.length Ctw) 3 (t.waiting.map a8)]⟩ <| kS <| kQ <| dZ 1 [2,3,7] [(7,.v (.agg (bA l).toArray))] 75 [.agg (bA l).toArray] (some 8) rfl (br fun ww hf => ysLimitsOk_c l ww ) ?_
 intro _
 refine dK 2 [2,3,10] [(10,aB (!(eN l)))] <| kP 10 (!(eN l)) (fun h1 => ?_) (fun h1 => ?_)
 have h1n := co h1
 refine aU [2,25] [(25,aB true)] <| kT <| kQ <| aD [4] [(4,aB false)] ?_
 refine kR ?_
 exact ⟨[.bool false],by kernel_rfl,fun w' hb hf => ⟨aS (show (false : Bool) = bB t l from by first | exact hno.symm | (exact (dR (by simpa using h1) (by omega) (by omega) hallC hgew HKw).symm) | (exact (dS (by simpa using h1)).symm) | (exact (dT (by omega)).symm) | (exact (dg (by omega)).symm)),hb⟩⟩
 have h1n := bj h1
 refine dK 8 [2,3,18] [(18,aB (decide (((t.conns.length : Nat) : Int) > l.conns)))] <| kP 18 (decide (((t.conns.length : Nat) : Int) > l.conns)) (fun h2 => ?_) (fun h2 => ?_)
 have h2p := of_decide_eq_true h2
 refine aU [2,25] [(25,aB true)] <| kT <| kQ <| aD [4] [(4,aB false)] ?_
 refine kR ?_
 exact ⟨[.bool false],by kernel_rfl,fun w' hb hf => ⟨aS (show (false : Bool) = bB t l from by first | exact hno.symm | (exact (dR (by simpa using h1) (by omega) (by omega) hallC hgew HKw).symm) | (exact (dS (by simpa using h1)).symm) | (exact (dT (by omega)).symm) | (exact (dg (by omega)).symm)),hb⟩⟩
 have h2p := of_decide_eq_false h2
 refine aU [2,25] [(25,aB (decide (((t.waiting.length : Nat) : Int) > l.waiting)))] <| kC (decide (((t.waiting.length : Nat) : Int) > l.waiting)) (fun h3 => ?_) (fun h3 => ?_)
 have h3p := of_decide_eq_true h3
 refine kQ <| aD [4] [(4,aB false)] <| kR ?_
 exact ⟨[.bool false],by kernel_rfl,fun w' hb hf => ⟨aS (show (false : Bool) = bB t l from by first | exact hno.symm | (exact (dR (by simpa using h1) (by omega) (by omega) hallC hgew HKw).symm) | (exact (dS (by simpa using h1)).symm) | (exact (dT (by omega)).symm) | (exact (dg (by omega)).symm)),hb⟩⟩
 have h3p := of_decide_eq_false h3
 refine kK <| kS <| kQ <| aU [2,5] [(5,aI 0)] ?_
 refine aj <| bI (α := {x : Nat // (fun (k : Nat) => k ≤ t.conns.length ∧ ∀ (i : Nat) (x : CV),i < k → t.conns[i]? = some x → cOne t i x = true) x}) (fun x => (fun (k : Nat) => (⟨[(2,.p 0 0),(5,aI (k : Int))],[⟨27,bU t (.slice Atc t.conns.length Ctc) (.slice Atw t.waiting.length Ctw)⟩,⟨35,bA l⟩],[],[bz (.slice Atc t.conns.length Ctc) 25 (t.conns.map ak),dV t.conns,bz (.slice Atw t.waiting.length Ctw) 3 (t.waiting.map a8)]⟩ : St)) x.1) (fun x => t.conns.length - x.1) ⟨(0),⟨Nat.zero_le _,fun i x hi => by omega⟩⟩ (kF 2 0 [2,5]) ?_
 rintro ⟨k,hk,HK⟩
 try dsimp only
 try dsimp only at hk HK
 refine kS <| kQ <| aU [2,5,30] [(30,aB (decide ((k : Int) < ((t.conns.length : Nat) : Int))))] <| kC (decide ((k : Int) < ((t.conns.length : Nat) : Int))) (fun h4 => ?_) (fun h4 => ?_)
 have h4p := of_decide_eq_true h4
 have hlt : k < t.conns.length := by simpa using h4
 obtain ⟨x0,hx⟩ : ∃ x,t.conns[k]? = some x := ⟨_,List.getElem?_eq_getElem hlt⟩
 obtain ⟨x,xa,xc,rfl⟩ := gi (hh_t_connsV x0 (List.mem_of_getElem? hx))
 have hft_x : bO x := hfit _ (List.mem_of_getElem? hx)
 obtain ⟨hfs_x,hfr_x,hfh_x,hfp_x⟩ := hft_x
 refine kK <| kS <| aj <| kS <| d4 ?_
 refine dm (K := 25) (j := k) [iI x.t.ip,iI x.t.port,iI x.t.my,iI x.state,iI x.s.una,.string x.s.data,iI x.s.sent,.bool x.s.fin,.bool x.s.finSent,.bool x.s.done,iI x.r.next,.string x.r.data,.slice xa x.r.held.length xc,iI x.r.fin,.bool x.r.done,iI x.window,iI x.most,iI x.o.mss,iI x.o.scale,.bool x.o.sack,.bool x.o.stamp,iI x.o.val,iI x.o.echo,iI x.timer,iI x.tries] (bz (.slice Atc t.conns.length Ctc) 25 (t.conns.map ak)) (fun _ _ h => h) (by simp) (fun w h => h) (fun b h => h) (by simp only [List.getElem?_map,hx]; rfl) (fun bq5 offq5 hAq5 => ?_)
 refine dm (K := 25) (j := k) [iI x.t.ip,iI x.t.port,iI x.t.my,iI x.state,iI x.s.una,.string x.s.data,iI x.s.sent,.bool x.s.fin,.bool x.s.finSent,.bool x.s.done,iI x.r.next,.string x.r.data,.slice xa x.r.held.length xc,iI x.r.fin,.bool x.r.done,iI x.window,iI x.most,iI x.o.mss,iI x.o.scale,.bool x.o.sack,.bool x.o.stamp,iI x.o.val,iI x.o.echo,iI x.timer,iI x.tries] (bz (.slice Atc t.conns.length Ctc) 25 (t.conns.map ak)) (fun _ _ h => h) (by simp) (fun w h => h) (fun b h => h) (by simp only [List.getElem?_map,hx]; rfl) (fun bq6 offq6 hAq6 => ?_)
 refine cl [] (by kernel_rfl) (fun ρ σ hq7 => ?_)
 refine d3 [0,1,2] [35,34,2,5] 16 [(35,aI (k : Int)),(34,.v (.slice Atc t.conns.length Ctc))] <| cO (kd := .i64) (T := 24) (e := 50) (K := 25) (j := k) (A := Atc) (len := t.conns.length) (cap := Ctc) 3 0 _ rfl (by kernel_rfl) (by kernel_rfl) (by kernel_rfl) (fun _ _ h => h) (by kernel_rfl) rfl rfl (by kernel_rfl) (by kernel_rfl) (by kernel_rfl) (by kernel_rfl) hlt hAq5 hq7.1.2 (by kernel_rfl) rfl ?_
 refine d3 [4] [37,2,5] 14 [(37,.v (.agg (a6 x (cS xa x xc)).toArray))] <| kA [5] <| d8 5 58 [.agg (a6 x (cS xa x xc)).toArray] (some 38) rfl (br fun ww hf => dM x (cS xa x xc) ww ((hf _ m1) (x,.slice xa x.r.held.length xc) (List.mem_of_getElem? hx)) (by assumption) (by omega)) ?_
 intro _
 refine d3 [6,7] [40,2,5] 11 [(40,aB (!(aE x)))] <| kY 40 (!(aE x)) (fun h8 => ?_) (fun h8 => ?_)
 have hno := tableOk_c (l := l) hx (cOne_no1 (by simpa using h8))
 refine d3 [8,9,10,11,16] [49,44,43,41,40,2,5] 6 [(49,.v undef),(44,.v undef),(43,.v undef),(41,.v undef),(40,aB true)] <| xe_skip 12 ⟨[(45,.v undef),(49,.v undef),(44,.v undef),(43,.v undef),(41,.v undef),(40,aB true),(2,.p 0 0),(5,aI (k : Int))],[⟨27,bU t (.slice Atc t.conns.length Ctc) (.slice Atw t.waiting.length Ctw)⟩,⟨35,bA l⟩],[[iI x.t.ip,iI x.t.port,iI x.t.my,iI x.state,iI x.s.una,.string x.s.data,iI x.s.sent,.bool x.s.fin,.bool x.s.finSent,.bool x.s.done,iI x.r.next,.string x.r.data,.slice xa x.r.held.length xc,iI x.r.fin,.bool x.r.done,iI x.window,iI x.most,iI x.o.mss,iI x.o.scale,.bool x.o.sack,.bool x.o.stamp,iI x.o.val,iI x.o.echo,iI x.timer,iI x.tries],[iI x.t.ip,iI x.t.port,iI x.t.my,iI x.state,iI x.s.una,.string x.s.data,iI x.s.sent,.bool x.s.fin,.bool x.s.finSent,.bool x.s.done,iI x.r.next,.string x.r.data,.slice xa x.r.held.length xc,iI x.r.fin,.bool x.r.done,iI x.window,iI x.most,iI x.o.mss,iI x.o.scale,.bool x.o.sack,.bool x.o.stamp,iI x.o.val,iI x.o.echo,iI x.timer,iI x.tries]],[bz (.slice Atc t.conns.length Ctc) 25 (t.conns.map ak),dV t.conns,bz (.slice Atw t.waiting.length Ctw) 3 (t.waiting.map a8)]⟩ rfl (by kernel_rfl) (by kernel_rfl) (by kernel_rfl) (fun _ _ h => h) (by kernel_rfl) rfl (by kernel_rfl) ?_
 refine cK [13,14,15,17,18] [51,2,5] 0 [(51,aB true),(2,.p 0 0),(5,aI (k : Int))] <| kZ <| kT <| kQ <| aD [4] [(4,aB false)] ?_
 refine kR ?_
 exact ⟨[.bool false],by kernel_rfl,fun w' hb hf => ⟨aS (show (false : Bool) = bB t l from by first | exact hno.symm | (exact (dR (by simpa using h1) (by omega) (by omega) hallC hgew HKw).symm) | (exact (dS (by simpa using h1)).symm) | (exact (dT (by omega)).symm) | (exact (dg (by omega)).symm)),hb⟩⟩
 have hy1 : aE x = true := by simpa using h8
 refine d3 [8,9,10,11,16] [49,44,43,41,40,2,5] 6 [(49,aI (k : Int)),(44,aI (k : Int)),(43,.v (.slice Atc t.conns.length Ctc)),(41,.v (.agg (bU t (.slice Atc t.conns.length Ctc) (.slice Atw t.waiting.length Ctw)).toArray)),(40,aB false)] <| cO (kd := .i64) (T := 24) (e := 50) (K := 25) (j := k) (A := Atc) (len := t.conns.length) (cap := Ctc) 12 1 _ rfl (by kernel_rfl) (by kernel_rfl) (by kernel_rfl) (fun _ _ h => h) (by kernel_rfl) rfl rfl (by kernel_rfl) (by kernel_rfl) (by kernel_rfl) (by kernel_rfl) hlt hAq6 hq7.2 (by kernel_rfl) rfl ?_
 refine cK [13,14] [47,49,41,40,2,5] 3 [(47,.v (.agg (bV x.t).toArray)),(49,aI (k : Int)),(41,.v (.agg (bU t (.slice Atc t.conns.length Ctc) (.slice Atw t.waiting.length Ctw)).toArray)),(40,aB false),(2,.p 0 0),(5,aI (k : Int))] <| kA [15] <| d8 15 76 [.agg (bU t (.slice Atc t.conns.length Ctc) (.slice Atw t.waiting.length Ctw)).toArray,.agg (bV x.t).toArray] (some 48) rfl (br fun ww hf => ysFindConn_c t (.slice Atc t.conns.length Ctc) (.slice Atw t.waiting.length Ctw) x.t ww (hf _ m0) (hf _ m1) (hf _ m2) ) ?_
 intro _
 refine d3 [17,18] [51,2,5] 0 [(51,aB ((bS t x.t) != (k : Int)))] <| kZ <| kC ((bS t x.t) != (k : Int)) (fun h9 => ?_) (fun h9 => ?_)
 have h9p := neT h9
 have hno := tableOk_c (l := l) hx (cOne_no2 (by simpa using h9))
 refine kQ <| aD [4] [(4,aB false)] <| kR ?_
 exact ⟨[.bool false],by kernel_rfl,fun w' hb hf => ⟨aS (show (false : Bool) = bB t l from by first | exact hno.symm | (exact (dR (by simpa using h1) (by omega) (by omega) hallC hgew HKw).symm) | (exact (dS (by simpa using h1)).symm) | (exact (dT (by omega)).symm) | (exact (dg (by omega)).symm)),hb⟩⟩
 have h9p := neF h9
 have hy2 : bS t x.t = (k : Int) := by simpa using h9
 refine kK <| kG <| dK 3 [2,5] [(5,aI (K6.wrap ((k : Int) + 1)))] <| cJ [2,5] [(5,aI (K6.wrap ((k : Int) + 1)))] [(5,aI ((k : Int) + 1))] (by rw [show (K6.wrap ((k : Int) + 1)) = ((k : Int) + 1) from al (by omega) (by omega)]) (by kernel_rfl) ?_
 refine aU [2,5] [] ?_
 exact ⟨⟨(k + 1),⟨by omega,all_step (p := cOne t) hx (cOne_yes hy1 hy2) HK⟩⟩,kF 2 0 [2,5],by show t.conns.length - (k + 1) < t.conns.length - k; omega⟩
 have h4p := of_decide_eq_false h4
 have hge : k = t.conns.length := by simp at h4; omega
 have hallC := allI_all hge HK
 refine c5 <| kS <| kQ <| aU [2,6] [(6,aI 0)] ?_
 refine aj <| bI (α := {x : Nat // (fun (kw : Nat) => kw ≤ t.waiting.length ∧ ∀ (i : Nat) (x : Tup),i < kw → t.waiting[i]? = some x → wOne t i x = true) x}) (fun x => (fun (kw : Nat) => (⟨[(2,.p 0 0),(6,aI (kw : Int))],[⟨27,bU t (.slice Atc t.conns.length Ctc) (.slice Atw t.waiting.length Ctw)⟩,⟨35,bA l⟩],[],[bz (.slice Atc t.conns.length Ctc) 25 (t.conns.map ak),dV t.conns,bz (.slice Atw t.waiting.length Ctw) 3 (t.waiting.map a8)]⟩ : St)) x.1) (fun x => t.waiting.length - x.1) ⟨(0),⟨Nat.zero_le _,fun i x hi => by omega⟩⟩ (kF 2 0 [2,6]) ?_
 rintro ⟨kw,hkw,HKw⟩
 try dsimp only
 try dsimp only at hkw HKw
 refine kS <| kQ <| aU [2,6,56] [(56,aB (decide ((kw : Int) < ((t.waiting.length : Nat) : Int))))] <| kC (decide ((kw : Int) < ((t.waiting.length : Nat) : Int))) (fun h10 => ?_) (fun h10 => ?_)
 have h10p := of_decide_eq_true h10
 have hltw : kw < t.waiting.length := by simpa using h10
 obtain ⟨xw,hxw⟩ : ∃ x,t.waiting[kw]? = some x := ⟨_,List.getElem?_eq_getElem hltw⟩
 have hwp := wait_pre hxw
 refine kK <| kS <| aj <| kS <| d4 ?_
 refine dm (K := 3) (j := kw) [iI xw.ip,iI xw.port,iI xw.my] (bz (.slice Atw t.waiting.length Ctw) 3 (t.waiting.map a8)) (fun _ _ h => h) (by simp) (fun w h => h) (fun b h => h) (by simp only [List.getElem?_map,hxw]; rfl) (fun bq11 offq11 hAq11 => ?_)
 refine dm (K := 3) (j := kw) [iI xw.ip,iI xw.port,iI xw.my] (bz (.slice Atw t.waiting.length Ctw) 3 (t.waiting.map a8)) (fun _ _ h => h) (by simp) (fun w h => h) (fun b h => h) (by simp only [List.getElem?_map,hxw]; rfl) (fun bq12 offq12 hAq12 => ?_)
 refine cl [] (by kernel_rfl) (fun ρ σ hq13 => ?_)
 refine d3 [0,1,2,4,5,6] [65,64,61,60,2,6] 14 [(65,aI (kw : Int)),(64,.v (.slice Atw t.waiting.length Ctw)),(61,aI (kw : Int)),(60,.v (.slice Atw t.waiting.length Ctw))] <| kX 3 (.slice (if Ctw = 0 then Atw else Atw.map (·.add (0 * 3))) (kw - 0) (Ctw - 0)) rfl (fun _ _ ww hA => act_slV0 (e := 30) kw hA rfl (by kernel_rfl) (by kernel_rfl) rfl rfl rfl (by omega) ww) ?_
 refine cO (kd := .i64) (T := 25) (e := 30) (K := 3) (j := kw) (A := Atw) (len := t.waiting.length) (cap := Ctw) 7 0 _ rfl (by kernel_rfl) (by kernel_rfl) (by kernel_rfl) (fun _ _ h => h) (by kernel_rfl) rfl rfl (by kernel_rfl) (by kernel_rfl) (by kernel_rfl) (by kernel_rfl) hltw hAq11 hq13.1.2 (by kernel_rfl) rfl ?_
 refine d3 [8] [67,62,2,6] 11 [(67,.v (.agg (bV xw).toArray)),(62,.v (.slice (if Ctw = 0 then Atw else Atw.map (·.add (0 * 3))) (kw - 0) (Ctw - 0)))] <| kA [9] <| d8 9 77 [.slice (if Ctw = 0 then Atw else Atw.map (·.add (0 * 3))) (kw - 0) (Ctw - 0),.agg (bV xw).toArray] (some 68) rfl (br fun ww hf => yl25Waits_c ((t.waiting.drop 0).take (kw - 0)) (.slice (if Ctw = 0 then Atw else Atw.map (·.add (0 * 3))) (kw - 0) (Ctw - 0)) xw ww (Sl.partM (hf _ m2) 0 kw (by omega) (by omega)) ) ?_
 intro _
 refine cK [10] [69,2,6] 9 [(69,aB (eG ((t.waiting.drop 0).take (kw - 0)) xw)),(2,.p 0 0),(6,aI (kw : Int))] <| kY 69 (eG ((t.waiting.drop 0).take (kw - 0)) xw) (fun h14 => ?_) (fun h14 => ?_)
 have hno := tableOk_w (l := l) hxw (wOne_no2 (by have e := hwp; rw [h14] at e; simpa using e))
 refine d3 [11,12,13,14] [73,72,70,69,2,6] 5 [(73,.v undef),(72,.v undef),(70,.v undef),(69,aB true)] <| xe_skip 15 ⟨[(74,.v undef),(73,.v undef),(72,.v undef),(70,.v undef),(69,aB true),(2,.p 0 0),(6,aI (kw : Int))],[⟨27,bU t (.slice Atc t.conns.length Ctc) (.slice Atw t.waiting.length Ctw)⟩,⟨35,bA l⟩],[[iI xw.ip,iI xw.port,iI xw.my],[iI xw.ip,iI xw.port,iI xw.my]],[bz (.slice Atc t.conns.length Ctc) 25 (t.conns.map ak),dV t.conns,bz (.slice Atw t.waiting.length Ctw) 3 (t.waiting.map a8)]⟩ rfl (by kernel_rfl) (by kernel_rfl) (by kernel_rfl) (fun _ _ h => h) (by kernel_rfl) rfl (by kernel_rfl) ?_
 refine d3 [16,17,18,19] [78,2,6] 0 [(78,aB true)] <| kZ <| kT <| kQ <| aD [4] [(4,aB false)] ?_
 refine kR ?_
 exact ⟨[.bool false],by kernel_rfl,fun w' hb hf => ⟨aS (show (false : Bool) = bB t l from by first | exact hno.symm | (exact (dR (by simpa using h1) (by omega) (by omega) hallC hgew HKw).symm) | (exact (dS (by simpa using h1)).symm) | (exact (dT (by omega)).symm) | (exact (dg (by omega)).symm)),hb⟩⟩
 have hy2 : gy t.waiting xw = (kw : Int) := by have e := hwp; rw [h14] at e; simpa using e
 refine d3 [11,12,13,14] [73,72,70,69,2,6] 5 [(73,aI (kw : Int)),(72,.v (.slice Atw t.waiting.length Ctw)),(70,.v (.agg (bU t (.slice Atc t.conns.length Ctc) (.slice Atw t.waiting.length Ctw)).toArray)),(69,aB false)] <| cO (kd := .i64) (T := 25) (e := 30) (K := 3) (j := kw) (A := Atw) (len := t.waiting.length) (cap := Ctw) 15 1 _ rfl (by kernel_rfl) (by kernel_rfl) (by kernel_rfl) (fun _ _ h => h) (by kernel_rfl) rfl rfl (by kernel_rfl) (by kernel_rfl) (by kernel_rfl) (by kernel_rfl) hltw hAq12 hq13.2 (by kernel_rfl) rfl ?_
 refine d3 [16] [75,70,69,2,6] 3 [(75,.v (.agg (bV xw).toArray))] <| kA [17] <| d8 17 76 [.agg (bU t (.slice Atc t.conns.length Ctc) (.slice Atw t.waiting.length Ctw)).toArray,.agg (bV xw).toArray] (some 76) rfl (br fun ww hf => ysFindConn_c t (.slice Atc t.conns.length Ctc) (.slice Atw t.waiting.length Ctw) xw ww (hf _ m0) (hf _ m1) (hf _ m2) ) ?_
 intro _
 refine d3 [18,19] [78,2,6] 0 [(78,aB (decide ((bS t xw) < 0)))] <| kZ <| kC (decide ((bS t xw) < 0)) (fun h15 => ?_) (fun h15 => ?_)
 have h15p := of_decide_eq_true h15
 have hno := tableOk_w (l := l) hxw (wOne_no1 (by simpa using h15))
 refine kQ <| aD [4] [(4,aB false)] <| kR ?_
 exact ⟨[.bool false],by kernel_rfl,fun w' hb hf => ⟨aS (show (false : Bool) = bB t l from by first | exact hno.symm | (exact (dR (by simpa using h1) (by omega) (by omega) hallC hgew HKw).symm) | (exact (dS (by simpa using h1)).symm) | (exact (dT (by omega)).symm) | (exact (dg (by omega)).symm)),hb⟩⟩
 have h15p := of_decide_eq_false h15
 have hy1 : ¬ bS t xw < 0 := by simpa using h15
 refine kK <| kG <| dK 3 [2,6] [(6,aI (K6.wrap ((kw : Int) + 1)))] <| cJ [2,6] [(6,aI (K6.wrap ((kw : Int) + 1)))] [(6,aI ((kw : Int) + 1))] (by rw [show (K6.wrap ((kw : Int) + 1)) = ((kw : Int) + 1) from al (by omega) (by omega)]) (by kernel_rfl) ?_
 refine aU [2,6] [] ?_
 exact ⟨⟨(kw + 1),⟨by omega,all_step (p := wOne t) hxw (wOne_yes hy1 hy2) HKw⟩⟩,kF 2 0 [2,6],by show t.waiting.length - (kw + 1) < t.waiting.length - kw; omega⟩
 have h10p := of_decide_eq_false h10
 have hgew : kw = t.waiting.length := by simp at h10; omega
 refine c5 <| kQ <| aD [4] [(4,aB true)] <| kR ?_
 exact ⟨[.bool true],by kernel_rfl,fun w' hb hf => ⟨aS (show (true : Bool) = bB t l from by first | exact hno.symm | (exact (dR (by simpa using h1) (by omega) (by omega) hallC hgew HKw).symm) | (exact (dS (by simpa using h1)).symm) | (exact (dT (by omega)).symm) | (exact (dg (by omega)).symm)),hb⟩⟩
theorem ysSameTable_c (a : Tab) (a_connsV : Value) (a_waitingV : Value) (b : Tab) (b_connsV : Value) (b_waitingV : Value) (w : World) (hl_a_connsV : Sl w a_connsV 25 (a.conns.map ak)) (hh_a_connsV : ∀ x ∈ a.conns, Sl w x.2 2 (x.1.r.held.map pC)) (hl_a_waitingV : Sl w a_waitingV 3 (a.waiting.map a8)) (hl_b_connsV : Sl w b_connsV 25 (b.conns.map ak)) (hh_b_connsV : ∀ x ∈ b.conns, Sl w x.2 2 (x.1.r.held.map pC)) (hl_b_waitingV : Sl w b_waitingV 3 (b.waiting.map a8))  : Calls Try.prog 8 #[.agg (bU a a_connsV a_waitingV).toArray, .agg (bU b b_connsV b_waitingV).toArray] w fun e w' => e = .returned (.bool (aO a b)) ∧ Below w.heap.size w w' := by
 obtain ⟨Aac,Cac,hvac⟩ := hl_a_connsV.form
 rw [List.length_map] at hvac; subst hvac
 have hnac := hl_a_connsV.len; rw [List.length_map] at hnac
 have hqac := Sl.capLe hl_a_connsV
 obtain ⟨Aaw,Caw,hvaw⟩ := hl_a_waitingV.form
 rw [List.length_map] at hvaw; subst hvaw
 have hnaw := hl_a_waitingV.len; rw [List.length_map] at hnaw
 have hqaw := Sl.capLe hl_a_waitingV
 obtain ⟨Abc,Cbc,hvbc⟩ := hl_b_connsV.form
 rw [List.length_map] at hvbc; subst hvbc
 have hnbc := hl_b_connsV.len; rw [List.length_map] at hnbc
 have hqbc := Sl.capLe hl_b_connsV
 obtain ⟨Abw,Cbw,hvbw⟩ := hl_b_waitingV.form
 rw [List.length_map] at hvbw; subst hvbw
 have hnbw := hl_b_waitingV.len; rw [List.length_map] at hnbw
 have hqbw := Sl.capLe hl_b_waitingV
 refine cn (args := [.agg (bU a (.slice Aac a.conns.length Cac) (.slice Aaw a.waiting.length Caw)).toArray,.agg (bU b (.slice Abc b.conns.length Cbc) (.slice Abw b.waiting.length Cbw)).toArray]) (fn := Try.f8) [bz (.slice Aac a.conns.length Cac) 25 (a.conns.map ak),dV a.conns,bz (.slice Aaw a.waiting.length Caw) 3 (a.waiting.map a8),bz (.slice Abc b.conns.length Cbc) 25 (b.conns.map ak),dV b.conns,bz (.slice Abw b.waiting.length Cbw) 3 (b.waiting.map a8)] Try.func8 rfl Try.ntmps8 rfl (by simp only [List.mem_cons,List.not_mem_nil,or_false,forall_eq_or_imp,forall_eq]; exact ⟨⟨rfl,hl_a_connsV⟩,⟨rfl,hh_a_connsV⟩,⟨rfl,hl_a_waitingV⟩,⟨rfl,hl_b_connsV⟩,⟨rfl,hh_b_connsV⟩,⟨rfl,hl_b_waitingV⟩⟩) ?_
 refine kQ <| cv [2,3] ⟨[(2,.p 0 0),(3,.p 1 0)],[⟨27,bU a (.slice Aac a.conns.length Cac) (.slice Aaw a.waiting.length Caw)⟩,⟨27,bU b (.slice Abc b.conns.length Cbc) (.slice Abw b.waiting.length Cbw)⟩],[],[bz (.slice Aac a.conns.length Cac) 25 (a.conns.map ak),dV a.conns,bz (.slice Aaw a.waiting.length Caw) 3 (a.waiting.map a8),bz (.slice Abc b.conns.length Cbc) 25 (b.conns.map ak),dV b.conns,bz (.slice Abw b.waiting.length Cbw) 3 (b.waiting.map a8)]⟩ <| kS <| kQ <| dK 8 [2,3,14] [(14,aB (((a.conns.length : Nat) : Int) != ((b.conns.length : Nat) : Int)))] ?_
 refine kP 14 (((a.conns.length : Nat) : Int) != ((b.conns.length : Nat) : Int)) (fun h1 => ?_) (fun h1 => ?_)
 have h1p := neT h1
 refine aU [2,3,22] [(22,aB true)] <| kT <| kQ <| aD [4] [(4,aB false)] ?_
 refine kR ?_
 exact ⟨[.bool false],by kernel_rfl,fun w' hb hf => ⟨aS (show (false : Bool) = aO a b from by first | (unfold aO; rw [hno]; rfl) | (unfold aO; rw [hnow]; simp) | (unfold aO; rw [hall,hallw]; rfl) | (unfold aO; rw [d5 (a := a.conns) (by omega)]; rfl) | (unfold aO; rw [d5 (a := a.waiting) (by omega)]; simp)),hb⟩⟩
 have h1p := neF h1
 refine aU [2,3,22] [(22,aB (((a.waiting.length : Nat) : Int) != ((b.waiting.length : Nat) : Int)))] <| kC (((a.waiting.length : Nat) : Int) != ((b.waiting.length : Nat) : Int)) (fun h2 => ?_) (fun h2 => ?_)
 have h2p := neT h2
 refine kQ <| aD [4] [(4,aB false)] <| kR ?_
 exact ⟨[.bool false],by kernel_rfl,fun w' hb hf => ⟨aS (show (false : Bool) = aO a b from by first | (unfold aO; rw [hno]; rfl) | (unfold aO; rw [hnow]; simp) | (unfold aO; rw [hall,hallw]; rfl) | (unfold aO; rw [d5 (a := a.conns) (by omega)]; rfl) | (unfold aO; rw [d5 (a := a.waiting) (by omega)]; simp)),hb⟩⟩
 have h2p := neF h2
 refine kK <| kS <| kQ <| aU [2,3,5] [(5,aI 0)] ?_
 refine aj ?_
 have hlen : a.conns.length = b.conns.length := by omega
 refine bI (α := {x : Nat // (fun (k : Nat) => k ≤ a.conns.length ∧ ∀ (i : Nat) (x y : CV),i < k → a.conns[i]? = some x → b.conns[i]? = some y → dh x.1 y.1 = true) x}) (fun x => (fun (k : Nat) => (⟨[(2,.p 0 0),(3,.p 1 0),(5,aI (k : Int))],[⟨27,bU a (.slice Aac a.conns.length Cac) (.slice Aaw a.waiting.length Caw)⟩,⟨27,bU b (.slice Abc b.conns.length Cbc) (.slice Abw b.waiting.length Cbw)⟩],[],[bz (.slice Aac a.conns.length Cac) 25 (a.conns.map ak),dV a.conns,bz (.slice Aaw a.waiting.length Caw) 3 (a.waiting.map a8),bz (.slice Abc b.conns.length Cbc) 25 (b.conns.map ak),dV b.conns,bz (.slice Abw b.waiting.length Cbw) 3 (b.waiting.map a8)]⟩ : St)) x.1) (fun x => a.conns.length - x.1) ⟨(0),⟨Nat.zero_le _,fun i x y hi => by omega⟩⟩ (kF 2 0 [2,3,5]) ?_
 rintro ⟨k,hk,HK⟩
 try dsimp only
 try dsimp only at hk HK
 refine kS <| kQ <| aU [2,3,5,27] [(27,aB (decide ((k : Int) < ((a.conns.length : Nat) : Int))))] <| kC (decide ((k : Int) < ((a.conns.length : Nat) : Int))) (fun h3 => ?_) (fun h3 => ?_)
 have h3p := of_decide_eq_true h3
 have hlt : k < a.conns.length := by simpa using h3
 obtain ⟨x0,hx⟩ : ∃ x,a.conns[k]? = some x := ⟨_,List.getElem?_eq_getElem hlt⟩
 obtain ⟨x,xa,xc,rfl⟩ := gi (hh_a_connsV x0 (List.mem_of_getElem? hx))
 obtain ⟨y0,hy⟩ : ∃ y,b.conns[k]? = some y := ⟨_,List.getElem?_eq_getElem (by omega)⟩
 obtain ⟨y,ya,yc,rfl⟩ := gi (hh_b_connsV y0 (List.mem_of_getElem? hy))
 refine kK <| kS <| aj <| kS <| d4 ?_
 refine dm (K := 25) (j := k) [iI x.t.ip,iI x.t.port,iI x.t.my,iI x.state,iI x.s.una,.string x.s.data,iI x.s.sent,.bool x.s.fin,.bool x.s.finSent,.bool x.s.done,iI x.r.next,.string x.r.data,.slice xa x.r.held.length xc,iI x.r.fin,.bool x.r.done,iI x.window,iI x.most,iI x.o.mss,iI x.o.scale,.bool x.o.sack,.bool x.o.stamp,iI x.o.val,iI x.o.echo,iI x.timer,iI x.tries] (bz (.slice Aac a.conns.length Cac) 25 (a.conns.map ak)) (fun _ _ h => h) (by simp) (fun w h => h) (fun b h => h) (by simp only [List.getElem?_map,hx]; rfl) (fun bq4 offq4 hAq4 => ?_)
 refine dm (K := 25) (j := k) [iI y.t.ip,iI y.t.port,iI y.t.my,iI y.state,iI y.s.una,.string y.s.data,iI y.s.sent,.bool y.s.fin,.bool y.s.finSent,.bool y.s.done,iI y.r.next,.string y.r.data,.slice ya y.r.held.length yc,iI y.r.fin,.bool y.r.done,iI y.window,iI y.most,iI y.o.mss,iI y.o.scale,.bool y.o.sack,.bool y.o.stamp,iI y.o.val,iI y.o.echo,iI y.timer,iI y.tries] (bz (.slice Abc b.conns.length Cbc) 25 (b.conns.map ak)) (fun _ _ h => h) (by simp) (fun w h => h) (fun b h => h) (by simp only [List.getElem?_map,hy]; rfl) (fun bq5 offq5 hAq5 => ?_)
 refine cl [] (by kernel_rfl) (fun ρ σ hq6 => ?_)
 refine d3 [0,1,2,5,6,7] [37,36,32,31,2,3,5] 6 [(37,aI (k : Int)),(36,.v (.slice Abc b.conns.length Cbc)),(32,aI (k : Int)),(31,.v (.slice Aac a.conns.length Cac))] <| cO (kd := .i64) (T := 24) (e := 50) (K := 25) (j := k) (A := Aac) (len := a.conns.length) (cap := Cac) 3 0 _ rfl (by kernel_rfl) (by kernel_rfl) (by kernel_rfl) (fun _ _ h => h) (by kernel_rfl) rfl rfl (by kernel_rfl) (by kernel_rfl) (by kernel_rfl) (by kernel_rfl) hlt hAq4 hq6.1.2 (by kernel_rfl) rfl ?_
 refine d3 [4] [34,37,36,2,3,5] 4 [(34,.v (.agg (a6 x (cS xa x xc)).toArray))] <| cO (kd := .i64) (T := 24) (e := 50) (K := 25) (j := k) (A := Abc) (len := b.conns.length) (cap := Cbc) 8 1 _ rfl (by kernel_rfl) (by kernel_rfl) (by kernel_rfl) (fun _ _ h => h) (by kernel_rfl) rfl rfl (by kernel_rfl) (by kernel_rfl) (by kernel_rfl) (by kernel_rfl) (by omega) hAq5 hq6.2 (by kernel_rfl) rfl ?_
 refine d3 [9] [39,34,2,3,5] 2 [(39,.v (.agg (a6 y (cS ya y yc)).toArray))] <| kA [10] <| d8 10 13 [.agg (a6 x (cS xa x xc)).toArray,.agg (a6 y (cS ya y yc)).toArray] (some 40) rfl (br fun ww hf => ysSameConn_c x (cS xa x xc) y (cS ya y yc) ww ((hf _ m1) (x,.slice xa x.r.held.length xc) (List.mem_of_getElem? hx)) ((hf _ m4) (y,.slice ya y.r.held.length yc) (List.mem_of_getElem? hy)) ) ?_
 intro _
 refine d3 [11] [41,2,3,5] 0 [(41,aB (!(dh x y)))] <| kZ <| kC (!(dh x y)) (fun h7 => ?_) (fun h7 => ?_)
 have hno := sameL_no (eq := fun x y : CV => dh x.1 y.1) hx hy (by simpa using h7)
 refine kQ <| aD [4] [(4,aB false)] <| kR ?_
 exact ⟨[.bool false],by kernel_rfl,fun w' hb hf => ⟨aS (show (false : Bool) = aO a b from by first | (unfold aO; rw [hno]; rfl) | (unfold aO; rw [hnow]; simp) | (unfold aO; rw [hall,hallw]; rfl) | (unfold aO; rw [d5 (a := a.conns) (by omega)]; rfl) | (unfold aO; rw [d5 (a := a.waiting) (by omega)]; simp)),hb⟩⟩
 have hye : dh x y = true := by simpa using h7
 refine kK <| kG <| dK 3 [2,3,5] [(5,aI (K6.wrap ((k : Int) + 1)))] <| cJ [2,3,5] [(5,aI (K6.wrap ((k : Int) + 1)))] [(5,aI ((k : Int) + 1))] (by rw [show (K6.wrap ((k : Int) + 1)) = ((k : Int) + 1) from al (by omega) (by omega)]) (by kernel_rfl) ?_
 refine aD [2,3,5] [(2,.p 0 0),(3,.p 1 0),(5,aI ((k : Int) + 1))] ?_
 exact ⟨⟨(k + 1),⟨by omega,same_step (eq := fun x y : CV => dh x.1 y.1) hx hy hye HK⟩⟩,kF 2 0 [2,3,5],by show a.conns.length - (k + 1) < a.conns.length - k; omega⟩
 have h3p := of_decide_eq_false h3
 have hge : k = a.conns.length := by simp at h3; omega
 have hall := gq (eq := fun x y : CV => dh x.1 y.1) hge hlen HK
 refine c5 <| kS <| kQ <| aU [2,3,6] [(6,aI 0)] ?_
 refine aj ?_
 have hlenw : a.waiting.length = b.waiting.length := by omega
 refine bI (α := {x : Nat // (fun (kw : Nat) => kw ≤ a.waiting.length ∧ ∀ (i : Nat) (x y : Tup),i < kw → a.waiting[i]? = some x → b.waiting[i]? = some y → bG x y = true) x}) (fun x => (fun (kw : Nat) => (⟨[(2,.p 0 0),(3,.p 1 0),(6,aI (kw : Int))],[⟨27,bU a (.slice Aac a.conns.length Cac) (.slice Aaw a.waiting.length Caw)⟩,⟨27,bU b (.slice Abc b.conns.length Cbc) (.slice Abw b.waiting.length Cbw)⟩],[],[bz (.slice Aac a.conns.length Cac) 25 (a.conns.map ak),dV a.conns,bz (.slice Aaw a.waiting.length Caw) 3 (a.waiting.map a8),bz (.slice Abc b.conns.length Cbc) 25 (b.conns.map ak),dV b.conns,bz (.slice Abw b.waiting.length Cbw) 3 (b.waiting.map a8)]⟩ : St)) x.1) (fun x => a.waiting.length - x.1) ⟨(0),⟨Nat.zero_le _,fun i x y hi => by omega⟩⟩ (kF 2 0 [2,3,6]) ?_
 rintro ⟨kw,hkw,HKw⟩
 try dsimp only
 try dsimp only at hkw HKw
 refine kS <| kQ <| aU [2,3,6,46] [(46,aB (decide ((kw : Int) < ((a.waiting.length : Nat) : Int))))] <| kC (decide ((kw : Int) < ((a.waiting.length : Nat) : Int))) (fun h8 => ?_) (fun h8 => ?_)
 have h8p := of_decide_eq_true h8
 have hltw : kw < a.waiting.length := by simpa using h8
 obtain ⟨xw,hxw⟩ : ∃ x,a.waiting[kw]? = some x := ⟨_,List.getElem?_eq_getElem hltw⟩
 obtain ⟨yw,hyw⟩ : ∃ y,b.waiting[kw]? = some y := ⟨_,List.getElem?_eq_getElem (by omega)⟩
 refine kK <| kS <| aj <| kS <| d4 ?_
 refine dm (K := 3) (j := kw) [iI xw.ip,iI xw.port,iI xw.my] (bz (.slice Aaw a.waiting.length Caw) 3 (a.waiting.map a8)) (fun _ _ h => h) (by simp) (fun w h => h) (fun b h => h) (by simp only [List.getElem?_map,hxw]; rfl) (fun bq9 offq9 hAq9 => ?_)
 refine dm (K := 3) (j := kw) [iI yw.ip,iI yw.port,iI yw.my] (bz (.slice Abw b.waiting.length Cbw) 3 (b.waiting.map a8)) (fun _ _ h => h) (by simp) (fun w h => h) (fun b h => h) (by simp only [List.getElem?_map,hyw]; rfl) (fun bq10 offq10 hAq10 => ?_)
 refine cl [] (by kernel_rfl) (fun ρ σ hq11 => ?_)
 refine d3 [0,1,2,5,6,7] [56,55,51,50,2,3,6] 5 [(56,aI (kw : Int)),(55,.v (.slice Abw b.waiting.length Cbw)),(51,aI (kw : Int)),(50,.v (.slice Aaw a.waiting.length Caw))] <| cO (kd := .i64) (T := 25) (e := 30) (K := 3) (j := kw) (A := Aaw) (len := a.waiting.length) (cap := Caw) 3 0 _ rfl (by kernel_rfl) (by kernel_rfl) (by kernel_rfl) (fun _ _ h => h) (by kernel_rfl) rfl rfl (by kernel_rfl) (by kernel_rfl) (by kernel_rfl) (by kernel_rfl) hltw hAq9 hq11.1.2 (by kernel_rfl) rfl ?_
 refine d3 [4] [53,56,55,2,3,6] 3 [(53,.v (.agg (bV xw).toArray))] <| cO (kd := .i64) (T := 25) (e := 30) (K := 3) (j := kw) (A := Abw) (len := b.waiting.length) (cap := Cbw) 8 1 _ rfl (by kernel_rfl) (by kernel_rfl) (by kernel_rfl) (fun _ _ h => h) (by kernel_rfl) rfl rfl (by kernel_rfl) (by kernel_rfl) (by kernel_rfl) (by kernel_rfl) (by omega) hAq10 hq11.2 (by kernel_rfl) rfl ?_
 refine d3 [9] [58,53,2,3,6] 1 [(58,.v (.agg (bV yw).toArray))] <| kX 10 (.bool (!bG xw yw)) rfl (fun _ _ ww hA => ck hA rfl (by kernel_rfl) (by kernel_rfl) (fl (by kernel_rfl) (run_neq_TUP xw.ip xw.port xw.my yw.ip yw.port yw.my ww))) ?_
 refine kZ <| kC (!bG xw yw) (fun h12 => ?_) (fun h12 => ?_)
 have hnow := sameL_no hxw hyw (by simpa using h12)
 refine kQ <| aD [4] [(4,aB false)] <| kR ?_
 exact ⟨[.bool false],by kernel_rfl,fun w' hb hf => ⟨aS (show (false : Bool) = aO a b from by first | (unfold aO; rw [hno]; rfl) | (unfold aO; rw [hnow]; simp) | (unfold aO; rw [hall,hallw]; rfl) | (unfold aO; rw [d5 (a := a.conns) (by omega)]; rfl) | (unfold aO; rw [d5 (a := a.waiting) (by omega)]; simp)),hb⟩⟩
 have hyew : bG xw yw = true := by simpa using h12
 refine kK <| kG <| eo 3 [2,3,6] [(2,.p 0 0),(3,.p 1 0),(6,aI (K6.wrap ((kw : Int) + 1)))] <| gd (t' := [(2,.p 0 0),(3,.p 1 0),(6,aI ((kw : Int) + 1))]) (by rw [show (K6.wrap ((kw : Int) + 1)) = ((kw : Int) + 1) from al (by omega) (by omega)]) ?_
 refine aU [2,3,6] [] ?_
 exact ⟨⟨(kw + 1),⟨by omega,same_step hxw hyw hyew HKw⟩⟩,kF 2 0 [2,3,6],by show a.waiting.length - (kw + 1) < a.waiting.length - kw; omega⟩
 have h8p := of_decide_eq_false h8
 have hgew : kw = a.waiting.length := by simp at h8; omega
 have hallw := gq hgew hlenw HKw
 refine c5 <| kQ <| aD [4] [(4,aB true)] <| kR ?_
 exact ⟨[.bool true],by kernel_rfl,fun w' hb hf => ⟨aS (show (true : Bool) = aO a b from by first | (unfold aO; rw [hno]; rfl) | (unfold aO; rw [hnow]; simp) | (unfold aO; rw [hall,hallw]; rfl) | (unfold aO; rw [d5 (a := a.conns) (by omega)]; rfl) | (unfold aO; rw [d5 (a := a.waiting) (by omega)]; simp)),hb⟩⟩
theorem ysSegmentOk_c (g : Seg) (w : World) (hsz : g.body.size ≤ 4611686018427387904) : Calls Try.prog 92 #[.agg (bE g).toArray] w fun e w' => e = .returned (.bool (dk g)) ∧ Below w.heap.size w w' := by
 refine cn (args := [.agg (bE g).toArray]) (fn := Try.f92) [] Try.func92 rfl Try.ntmps92 rfl (by simp) ?_
 refine kQ <| cv [1] ⟨[(1,.p 0 0)],[⟨85,bE g⟩],[],[]⟩ <| kS <| c7 ⟨[(2,aB ((aR g.src 16) && ((aR g.dst 16) && ((aR g.window 16) && ((aR g.seq 32) && ((aR g.ack 32) && ((aR g.flags 6) && ((bL g.o) && (decide ((g.body.size : Int) ≤ 1420))))))))))],[⟨85,bE g⟩],[],[]⟩ ?_ ?_
 refine kG <| em 2 [1,4] [(1,.p 0 0),(4,aI g.src)] 54 [iI g.src,iI 16] (some 5) rfl (bF fun ww hf => dQ g.src ww) ?_
 intro _
 refine eo 1 [1,6] [(1,.p 0 0),(6,aB (aR g.src 16))] <| kP 6 (aR g.src 16) (fun h1 => ?_) (fun h1 => ?_)
 refine em 2 [1,6,8] [(1,.p 0 0),(6,aB true),(8,aI g.dst)] 54 [iI g.dst,iI 16] (some 9) rfl (bF fun ww hf => dQ g.dst ww) ?_
 intro _
 refine eo 2 [1,11] [(1,.p 0 0),(11,aB (aR g.dst 16))] <| kP 11 (aR g.dst 16) (fun h2 => ?_) (fun h2 => ?_)
 refine em 2 [1,11,13] [(1,.p 0 0),(11,aB true),(13,aI g.window)] 54 [iI g.window,iI 16] (some 14) rfl (bF fun ww hf => dQ g.window ww) ?_
 intro _
 refine eo 2 [1,16] [(1,.p 0 0),(16,aB (aR g.window 16))] <| kP 16 (aR g.window 16) (fun h3 => ?_) (fun h3 => ?_)
 refine em 2 [1,16,18] [(1,.p 0 0),(16,aB true),(18,aI g.seq)] 54 [iI g.seq,iI 32] (some 19) rfl (bF fun ww hf => eW g.seq ww) ?_
 intro _
 refine eo 2 [1,21] [(1,.p 0 0),(21,aB (aR g.seq 32))] <| kP 21 (aR g.seq 32) (fun h4 => ?_) (fun h4 => ?_)
 refine em 2 [1,21,23] [(1,.p 0 0),(21,aB true),(23,aI g.ack)] 54 [iI g.ack,iI 32] (some 24) rfl (bF fun ww hf => eW g.ack ww) ?_
 intro _
 refine eo 2 [1,26] [(1,.p 0 0),(26,aB (aR g.ack 32))] <| kP 26 (aR g.ack 32) (fun h5 => ?_) (fun h5 => ?_)
 refine em 2 [1,26,28] [(1,.p 0 0),(26,aB true),(28,aI g.flags)] 54 [iI g.flags,iI 6] (some 29) rfl (bF fun ww hf => gm g.flags ww) ?_
 intro _
 refine eo 2 [1,31] [(1,.p 0 0),(31,aB (aR g.flags 6))] <| kP 31 (aR g.flags 6) (fun h6 => ?_) (fun h6 => ?_)
 refine em 2 [1,31,33] [(1,.p 0 0),(31,aB true),(33,.v (.agg (dI g.o).toArray))] 52 [.agg (dI g.o).toArray] (some 34) rfl (br fun ww hf => ge g.o.mss g.o.scale g.o.sack g.o.stamp g.o.val g.o.echo ww ) ?_
 intro _
 refine eo 2 [1,36] [(1,.p 0 0),(36,aB (bL g.o))] <| kP 36 (bL g.o) (fun h7 => ?_) (fun h7 => ?_)
 refine aD [2] [(2,aB (decide ((g.body.size : Int) ≤ 1420)))] ?_
 show Wk _ _
 try rw [h1]
 try rw [h2]
 try rw [h3]
 try rw [h4]
 try rw [h5]
 try rw [h6]
 try rw [h7]
 exact kF 1 0 [2]
 refine aD [2] [(2,aB false)] ?_
 show Wk _ _
 try rw [h1]
 try rw [h2]
 try rw [h3]
 try rw [h4]
 try rw [h5]
 try rw [h6]
 try rw [h7]
 exact kF 1 0 [2]
 refine aD [2] [(2,aB false)] ?_
 show Wk _ _
 try rw [h1]
 try rw [h2]
 try rw [h3]
 try rw [h4]
 try rw [h5]
 try rw [h6]
 exact kF 1 0 [2]
 refine aD [2] [(2,aB false)] ?_
 show Wk _ _
 try rw [h1]
 try rw [h2]
 try rw [h3]
 try rw [h4]
 try rw [h5]
 exact kF 1 0 [2]
 refine aD [2] [(2,aB false)] ?_
 show Wk _ _
 try rw [h1]
 try rw [h2]
 try rw [h3]
 try rw [h4]
 exact kF 1 0 [2]
 refine aD [2] [(2,aB false)] ?_
 show Wk _ _
 try rw [h1]
 try rw [h2]
 try rw [h3]
 exact kF 1 0 [2]
 refine aD [2] [(2,aB false)] ?_
 show Wk _ _
 try rw [h1]
 try rw [h2]
 exact kF 1 0 [2]
 refine aD [2] [(2,aB false)] ?_
 show Wk _ _
 try rw [h1]
 exact kF 1 0 [2]
 refine kR ?_
 exact ⟨[.bool ((aR g.src 16) && ((aR g.dst 16) && ((aR g.window 16) && ((aR g.seq 32) && ((aR g.ack 32) && ((aR g.flags 6) && ((bL g.o) && (decide ((g.body.size : Int) ≤ 1420)))))))))],by kernel_rfl,fun w' hb hf => ⟨aS (show ((aR g.src 16) && ((aR g.dst 16) && ((aR g.window 16) && ((aR g.seq 32) && ((aR g.ack 32) && ((aR g.flags 6) && ((bL g.o) && (decide ((g.body.size : Int) ≤ 1420)))))))) : Bool) = dk g from by first | rfl | (simp [dk, *]; done) | (simp [dk, *]; omega) | grind [bD,dk]),hb⟩⟩
theorem eL (c : Con) (rV : Value) (w : World) (hZ : Sl w rV 2 (c.r.held.map pC)) (hsz : c.r.data.size ≤ 4611686018427387904) : Calls Try.prog 62 #[.agg (a6 c rV).toArray] w fun e w' => e = .returned (.agg #[iI c.t.my, iI c.t.port, iI (ag c.s), iI c.r.next, iI 16, iI (wO c.r), iI 0, iI (-1), .bool false, .bool false, iI 0, iI 0, .string (⟨#[]⟩ : ByteArray)]) ∧ Below w.heap.size w w' := by
 obtain ⟨Z,Y,hY⟩ := hZ.form
 rw [List.length_map] at hY; subst hY
 have hJ := hZ.len; rw [List.length_map] at hJ
 have hqcrh := Sl.capLe hZ
 refine cn (args := [.agg (a6 c (cS Z c Y)).toArray]) (fn := Try.f62) [cH Z c Y] Try.func62 rfl Try.ntmps62 rfl (by simp only [List.mem_cons,List.not_mem_nil,or_false,forall_eq_or_imp,forall_eq]; exact ⟨rfl,hZ⟩) ?_
 refine kQ <| cv [1,2] ⟨[(1,.p 0 0),(2,.p 1 0)],[⟨50,a6 c (cS Z c Y)⟩,⟨85,eb⟩],[],[cH Z c Y]⟩ <| kS <| bY [true,false] (by kernel_rfl) (fun ρ σ => ?_)
 refine cK [0,1,2,3,4,5,6,7,9,10,11,12,13] [16,14,10,8,5,2] 5 [(16,.v (.agg (ab c.r (cS Z c Y)).toArray)),(14,aI c.r.next),(10,.v (.agg (am c.s).toArray)),(8,aI c.t.port),(5,aI c.t.my),(2,.p 1 0)] <| kA [8] <| d8 8 91 [.agg (am c.s).toArray] (some 11) rfl (br fun ww hf => sNextOf_c c.s.una c.s.data c.s.sent c.s.fin c.s.finSent c.s.done ww ) ?_
 intro _
 refine kA [14] <| d8 14 65 [.agg (ab c.r (cS Z c Y)).toArray] (some 17) rfl (br fun ww hf => e7 c.r.next c.r.data c.r.held (cS Z c Y) c.r.fin c.r.done ww (by omega)) ?_
 intro _
 refine kA [15] <| d8 15 53 [] (some 18) rfl (br fun ww hf => eQ  ww ) ?_
 intro _
 refine kX 16 (.agg #[iI c.t.my,iI c.t.port,iI (ag c.s),iI c.r.next,iI 16,iI (wO c.r),iI 0,iI (-1),.bool false,.bool false,iI 0,iI 0,.string (⟨#[]⟩ : ByteArray)]) rfl (fun _ _ ww hA => aH [(0,iI c.t.my),(1,iI c.t.port),(2,iI (ag c.s)),(3,iI c.r.next),(4,iI 16),(5,iI (wO c.r)),(6,.agg #[iI 0,iI (-1),.bool false,.bool false,iI 0,iI 0])] hA rfl (by kernel_rfl) (by kernel_rfl) ww) ?_
 refine kA [17] <| dp 17 1 0 [iI c.t.my,iI c.t.port,iI (ag c.s),iI c.r.next,iI 16,iI (wO c.r),iI 0,iI (-1),.bool false,.bool false,iI 0,iI 0,.string (⟨#[]⟩ : ByteArray)] rfl <| kZ <| kR ?_
 exact ⟨[.agg #[iI c.t.my,iI c.t.port,iI (ag c.s),iI c.r.next,iI 16,iI (wO c.r),iI 0,iI (-1),.bool false,.bool false,iI 0,iI 0,.string (⟨#[]⟩ : ByteArray)]],by kernel_rfl,fun w' hb hf => ⟨rfl,hb⟩⟩
theorem ysAcceptable_c (c : Con) (rV : Value) (g : Seg) (w : World) (hZ : Sl w rV 2 (c.r.held.map pC)) (hsz : c.r.data.size ≤ 4611686018427387904) (hgz : g.body.size ≤ 1048576) : Calls Try.prog 94 #[.agg (a6 c rV).toArray, .agg (bE g).toArray] w fun e w' => e = .returned (.bool (dw c g)) ∧ Below w.heap.size w w' := by
 have hlz := segLen_le hgz
 obtain ⟨Z,Y,hY⟩ := hZ.form
 rw [List.length_map] at hY; subst hY
 have hJ := hZ.len; rw [List.length_map] at hJ
 have hqcrh := Sl.capLe hZ
 refine cn (args := [.agg (a6 c (cS Z c Y)).toArray,.agg (bE g).toArray]) (fn := Try.f94) [cH Z c Y] Try.func94 rfl Try.ntmps94 rfl (by simp only [List.mem_cons,List.not_mem_nil,or_false,forall_eq_or_imp,forall_eq]; exact ⟨rfl,hZ⟩) ?_
 refine kQ <| cv [2,3] ⟨[(2,.p 0 0),(3,.p 1 0)],[⟨50,a6 c (cS Z c Y)⟩,⟨85,bE g⟩],[],[cH Z c Y]⟩ <| kQ <| em 1 [2,3,7] [(2,.p 0 0),(3,.p 1 0),(7,.v (.agg (bE g).toArray))] 69 [.agg (bE g).toArray] (some 8) rfl (br fun ww hf => gx g.src g.dst g.seq g.ack g.flags g.window g.o.mss g.o.scale g.o.sack g.o.stamp g.o.val g.o.echo g.body ww (by omega)) ?_
 intro _
 refine aD [2,3,5] [(2,.p 0 0),(3,.p 1 0),(5,aI (cD g))] <| kQ <| em 2 [2,3,5,10] [(2,.p 0 0),(3,.p 1 0),(5,aI (cD g)),(10,.v (.agg (ab c.r (cS Z c Y)).toArray))] 65 [.agg (ab c.r (cS Z c Y)).toArray] (some 11) rfl (br fun ww hf => e7 c.r.next c.r.data c.r.held (cS Z c Y) c.r.fin c.r.done ww (by omega)) ?_
 intro _
 refine aD [2,3,5,6] [(2,.p 0 0),(3,.p 1 0),(5,aI (cD g)),(6,aI (wO c.r))] <| kS <| kQ <| aD [2,3,5,6,13] [(2,.p 0 0),(3,.p 1 0),(5,aI (cD g)),(6,aI (wO c.r)),(13,aB ((cD g) == 0))] ?_
 refine kC ((cD g) == 0) (fun h1 => ?_) (fun h1 => ?_)
 have h1p := cN h1
 refine kS <| c7 ⟨[(4,aB (((aY g.seq c.r.next) == 0) || (cy g.seq c.r.next (wO c.r))))],[⟨50,a6 c (cS Z c Y)⟩,⟨85,bE g⟩],[],[cH Z c Y]⟩ ?_ ?_
 refine kG <| em 5 [2,3,6,15,18] [(2,.p 0 0),(3,.p 1 0),(6,aI (wO c.r)),(15,aI g.seq),(18,aI c.r.next)] 98 [iI g.seq,iI c.r.next] (some 19) rfl (bF fun ww hf => sSeqDiff_c g.seq c.r.next ww ) ?_
 intro _
 refine eo 2 [2,3,6,21] [(2,.p 0 0),(3,.p 1 0),(6,aI (wO c.r)),(21,aB ((aY g.seq c.r.next) == 0))] <| kP 21 ((aY g.seq c.r.next) == 0) (fun h2 => ?_) (fun h2 => ?_)
 have h2p := cN h2
 refine aD [4] [(4,aB true)] ?_
 show Wk _ _
 try rw [h2]
 exact kF 2 0 [4]
 have h2p := cI h2
 refine em 6 [21,23,26,27] [(21,aB false),(23,aI g.seq),(26,aI c.r.next),(27,aI (wO c.r))] 93 [iI g.seq,iI c.r.next,iI (wO c.r)] (some 28) rfl (bF fun ww hf => sInWindow_c g.seq c.r.next (wO c.r) ww ) ?_
 intro _
 refine aD [4] [(4,aB (cy g.seq c.r.next (wO c.r)))] ?_
 show Wk _ _
 try rw [h2]
 exact kF 2 0 [4]
 refine kR ?_
 exact ⟨[.bool (((aY g.seq c.r.next) == 0) || (cy g.seq c.r.next (wO c.r)))],by kernel_rfl,fun w' hb hf => ⟨aS (show (((aY g.seq c.r.next) == 0) || (cy g.seq c.r.next (wO c.r)) : Bool) = dw c g from by first | rfl | (simp [dw, *]; done) | grind [dw]),hb⟩⟩
 have h1p := cI h1
 refine kK <| kQ <| em 7 [31,32,35,36] [(31,aI g.seq),(32,aI (cD g)),(35,aI c.r.next),(36,aI (wO c.r))] 102 [iI g.seq,iI (cD g),iI c.r.next,iI (wO c.r)] (some 37) rfl (bF fun ww hf => sOverlaps_c g.seq (cD g) c.r.next (wO c.r) ww (by omega)) ?_
 intro _
 refine aD [4] [(4,aB (db g.seq (cD g) c.r.next (wO c.r)))] <| kR ?_
 exact ⟨[.bool (db g.seq (cD g) c.r.next (wO c.r))],by kernel_rfl,fun w' hb hf => ⟨aS (show (db g.seq (cD g) c.r.next (wO c.r) : Bool) = dw c g from by first | rfl | (simp [dw, *]; done) | grind [dw]),hb⟩⟩
theorem ysVerdict_c (c : Con) (rV : Value) (g : Seg) (w : World) (hZ : Sl w rV 2 (c.r.held.map pC)) (hgz : g.body.size ≤ 1048576) (hm : ∀ p ∈ c.r.held, p.text.size ≤ 1048576) (hsz : c.r.data.size ≤ 4611686018427387904) : Calls Try.prog 66 #[.agg (a6 c rV).toArray, .agg (bE g).toArray] w fun e w' => e = .returned (iI (ax c g)) ∧ Below w.heap.size w w' := by
 obtain ⟨Z,Y,hY⟩ := hZ.form
 rw [List.length_map] at hY; subst hY
 have hJ := hZ.len; rw [List.length_map] at hJ
 have hqcrh := Sl.capLe hZ
 refine cn (args := [.agg (a6 c (cS Z c Y)).toArray,.agg (bE g).toArray]) (fn := Try.f66) [cH Z c Y] Try.func66 rfl Try.ntmps66 rfl (by simp only [List.mem_cons,List.not_mem_nil,or_false,forall_eq_or_imp,forall_eq]; exact ⟨rfl,hZ⟩) ?_
 refine kQ <| cv [2,3] ⟨[(2,.p 0 0),(3,.p 1 0)],[⟨50,a6 c (cS Z c Y)⟩,⟨85,bE g⟩],[],[cH Z c Y]⟩ <| kS <| aj <| kS <| c7 ⟨[(2,.p 0 0),(3,.p 1 0),(5,aB ((!(aE c)) || ((c.state == 8) || (!(dk g)))))],[⟨50,a6 c (cS Z c Y)⟩,⟨85,bE g⟩],[],[cH Z c Y]⟩ ?_ ?_
 refine kG <| em 1 [2,3,6] [(2,.p 0 0),(3,.p 1 0),(6,.v (.agg (a6 c (cS Z c Y)).toArray))] 58 [.agg (a6 c (cS Z c Y)).toArray] (some 7) rfl (br fun ww hf => dM c (cS Z c Y) ww (hf _ m0) (by assumption) (by omega)) ?_
 intro _
 refine eo 2 [2,3,9] [(2,.p 0 0),(3,.p 1 0),(9,aB (!(aE c)))] <| kP 9 (!(aE c)) (fun h1 => ?_) (fun h1 => ?_)
 have h1n := co h1
 refine aD [2,3,5] [(2,.p 0 0),(3,.p 1 0),(5,aB true)] ?_
 show Wk _ _
 try rw [h1]
 exact kF 2 0 [2,3,5]
 have h1n := bj h1
 refine eo 5 [2,3,14] [(2,.p 0 0),(3,.p 1 0),(14,aB (c.state == 8))] <| kP 14 (c.state == 8) (fun h2 => ?_) (fun h2 => ?_)
 have h2p := cN h2
 refine aD [2,3,5] [(2,.p 0 0),(3,.p 1 0),(5,aB true)] ?_
 show Wk _ _
 try rw [h1]
 try rw [h2]
 exact kF 2 0 [2,3,5]
 have h2p := cI h2
 refine em 1 [2,3,14,15] [(2,.p 0 0),(3,.p 1 0),(14,aB false),(15,.v (.agg (bE g).toArray))] 92 [.agg (bE g).toArray] (some 16) rfl (br fun ww hf => ysSegmentOk_c g ww (by first | omega | exact Nat.zero_le _)) ?_
 intro _
 refine aD [2,3,5] [(2,.p 0 0),(3,.p 1 0),(5,aB (!(dk g)))] ?_
 show Wk _ _
 try rw [h1]
 try rw [h2]
 exact kF 2 0 [2,3,5]
 refine kC ((!(aE c)) || ((c.state == 8) || (!(dk g)))) (fun h3 => ?_) (fun h3 => ?_)
 refine kQ <| aD [4] [(4,aI 1)] <| kR ?_
 have hmod : ax c g = 1 := by first | rfl | (simp [ax, *]; done) | grind [ax]
 exact ⟨[iI 1],by kernel_rfl,fun w' hb hf => by rw [hmod]; exact ⟨rfl,hb⟩⟩
 have h3l := gn h3
 have h3ln := bj h3l
 have h3r := gj h3
 have h3rl := gn h3r
 have h3rlp := cI h3rl
 have h3rr := gj h3r
 have h3rrn := bj h3rr
 refine kS <| c7 ⟨[(2,.p 0 0),(3,.p 1 0),(19,aB ((cL g.flags 4) && (g.seq == c.r.next)))],[⟨50,a6 c (cS Z c Y)⟩,⟨85,bE g⟩],[],[cH Z c Y]⟩ ?_ ?_
 refine kG <| em 1 [2,3,20] [(2,.p 0 0),(3,.p 1 0),(20,.v (.agg (bE g).toArray))] 67 [.agg (bE g).toArray,iI 4] (some 21) rfl (br fun ww hf => sHas_c g.src g.dst g.seq g.ack g.flags g.window g.o.mss g.o.scale g.o.sack g.o.stamp g.o.val g.o.echo g.body 4 ww ) ?_
 intro _
 refine eo 1 [2,3,22] [(2,.p 0 0),(3,.p 1 0),(22,aB (cL g.flags 4))] <| kP 22 (cL g.flags 4) (fun h4 => ?_) (fun h4 => ?_)
 refine aD [2,3,19] [(2,.p 0 0),(3,.p 1 0),(19,aB (g.seq == c.r.next))] ?_
 show Wk _ _
 try rw [h4]
 exact kF 2 0 [2,3,19]
 refine aD [2,3,19] [(2,.p 0 0),(3,.p 1 0),(19,aB false)] ?_
 show Wk _ _
 try rw [h4]
 exact kF 2 0 [2,3,19]
 refine kC ((cL g.flags 4) && (g.seq == c.r.next)) (fun h5 => ?_) (fun h5 => ?_)
 have h5l := and_l h5
 have h5r := and_r h5
 have h5rp := cN h5r
 refine kQ <| aD [4] [(4,aI 2)] <| kR ?_
 have hmod : ax c g = 2 := by first | rfl | (simp [ax, *]; done) | grind [ax]
 exact ⟨[iI 2],by kernel_rfl,fun w' hb hf => by rw [hmod]; exact ⟨rfl,hb⟩⟩
 refine kS <| c7 ⟨[(2,.p 0 0),(3,.p 1 0),(30,aB ((cL g.flags 4) && (cy g.seq c.r.next (wO c.r))))],[⟨50,a6 c (cS Z c Y)⟩,⟨85,bE g⟩],[],[cH Z c Y]⟩ ?_ ?_
 refine bY [] (by kernel_rfl) (fun ρ σ => ?_)
 refine cK [0] [31,2,3] 13 [(31,.v (.agg (bE g).toArray)),(2,.p 0 0),(3,.p 1 0)] <| kA [1] <| d8 1 67 [.agg (bE g).toArray,iI 4] (some 32) rfl (br fun ww hf => sHas_c g.src g.dst g.seq g.ack g.flags g.window g.o.mss g.o.scale g.o.sack g.o.stamp g.o.val g.o.echo g.body 4 ww ) ?_
 intro _
 refine cK [2] [33,2,3] 11 [(33,aB (cL g.flags 4)),(2,.p 0 0),(3,.p 1 0)] <| kY 33 (cL g.flags 4) (fun h6 => ?_) (fun h6 => ?_)
 refine cK [3,4,5,6,7,8,9] [40,38,35,33,2,3] 4 [(40,.v (.agg (ab c.r (cS Z c Y)).toArray)),(38,aI c.r.next),(35,aI g.seq),(33,aB true),(2,.p 0 0),(3,.p 1 0)] <| kA [10] <| d8 10 65 [.agg (ab c.r (cS Z c Y)).toArray] (some 41) rfl (br fun ww hf => e7 c.r.next c.r.data c.r.held (cS Z c Y) c.r.fin c.r.done ww (by omega)) ?_
 intro _
 refine kA [11] <| d8 11 93 [iI g.seq,iI c.r.next,iI (wO c.r)] (some 42) rfl (bF fun ww hf => sInWindow_c g.seq c.r.next (wO c.r) ww ) ?_
 intro _
 refine cK [12,13] [30,2,3] 0 [(30,aB (cy g.seq c.r.next (wO c.r))),(2,.p 0 0),(3,.p 1 0)] <| kZ ?_
 show Wk _ _
 try rw [h6]
 exact kF 2 0 [2,3,30]
 refine cK [3,4,5,6,7,8,9,10,11,12,13] [30,2,3] 0 [(30,aB false),(2,.p 0 0),(3,.p 1 0)] <| kZ ?_
 show Wk _ _
 try rw [h6]
 exact kF 2 0 [2,3,30]
 refine kC ((cL g.flags 4) && (cy g.seq c.r.next (wO c.r))) (fun h7 => ?_) (fun h7 => ?_)
 have h7l := and_l h7
 have h7r := and_r h7
 refine kQ <| aD [4] [(4,aI 3)] <| kR ?_
 have hmod : ax c g = 3 := by first | rfl | (simp [ax, *]; done) | grind [ax]
 exact ⟨[iI 3],by kernel_rfl,fun w' hb hf => by rw [hmod]; exact ⟨rfl,hb⟩⟩
 refine kQ <| em 1 [2,3,45] [(2,.p 0 0),(3,.p 1 0),(45,.v (.agg (bE g).toArray))] 67 [.agg (bE g).toArray,iI 4] (some 46) rfl (br fun ww hf => sHas_c g.src g.dst g.seq g.ack g.flags g.window g.o.mss g.o.scale g.o.sack g.o.stamp g.o.val g.o.echo g.body 4 ww ) ?_
 intro _
 refine aD [2,3,44] [(2,.p 0 0),(3,.p 1 0),(44,aB (cL g.flags 4))] <| kC (cL g.flags 4) (fun h8 => ?_) (fun h8 => ?_)
 refine kQ <| aD [4] [(4,aI 1)] <| kR ?_
 have hmod : ax c g = 1 := by first | rfl | (simp [ax, *]; done) | grind [ax]
 exact ⟨[iI 1],by kernel_rfl,fun w' hb hf => by rw [hmod]; exact ⟨rfl,hb⟩⟩
 refine kQ <| em 1 [2,3,48] [(2,.p 0 0),(3,.p 1 0),(48,.v (.agg (bE g).toArray))] 67 [.agg (bE g).toArray,iI 2] (some 49) rfl (br fun ww hf => sHas_c g.src g.dst g.seq g.ack g.flags g.window g.o.mss g.o.scale g.o.sack g.o.stamp g.o.val g.o.echo g.body 2 ww ) ?_
 intro _
 refine aD [2,3,47] [(2,.p 0 0),(3,.p 1 0),(47,aB (cL g.flags 2))] <| kC (cL g.flags 2) (fun h9 => ?_) (fun h9 => ?_)
 refine kQ <| aD [4] [(4,aI 3)] <| kR ?_
 have hmod : ax c g = 3 := by first | rfl | (simp [ax, *]; done) | grind [ax]
 exact ⟨[iI 3],by kernel_rfl,fun w' hb hf => by rw [hmod]; exact ⟨rfl,hb⟩⟩
 refine kQ <| em 2 [2,3,51,52] [(2,.p 0 0),(3,.p 1 0),(51,.v (.agg (a6 c (cS Z c Y)).toArray)),(52,.v (.agg (bE g).toArray))] 94 [.agg (a6 c (cS Z c Y)).toArray,.agg (bE g).toArray] (some 53) rfl (br fun ww hf => ysAcceptable_c c (cS Z c Y) g ww (hf _ m0) (by first | omega | (dsimp only; omega)) (by first | omega | assumption)) ?_
 intro _
 refine aD [2,3,50] [(2,.p 0 0),(3,.p 1 0),(50,aB (!(dw c g)))] <| kC (!(dw c g)) (fun h10 => ?_) (fun h10 => ?_)
 have h10n := co h10
 refine kQ <| aD [4] [(4,aI 4)] <| kR ?_
 have hmod : ax c g = 4 := by first | rfl | (simp [ax, *]; done) | grind [ax]
 exact ⟨[iI 4],by kernel_rfl,fun w' hb hf => by rw [hmod]; exact ⟨rfl,hb⟩⟩
 have h10n := bj h10
 refine kQ <| em 1 [2,3,56] [(2,.p 0 0),(3,.p 1 0),(56,.v (.agg (bE g).toArray))] 67 [.agg (bE g).toArray,iI 16] (some 57) rfl (br fun ww hf => sHas_c g.src g.dst g.seq g.ack g.flags g.window g.o.mss g.o.scale g.o.sack g.o.stamp g.o.val g.o.echo g.body 16 ww ) ?_
 intro _
 refine aD [2,3,55] [(2,.p 0 0),(3,.p 1 0),(55,aB (!(cL g.flags 16)))] <| kC (!(cL g.flags 16)) (fun h11 => ?_) (fun h11 => ?_)
 have h11n := co h11
 refine kQ <| aD [4] [(4,aI 1)] <| kR ?_
 have hmod : ax c g = 1 := by first | rfl | (simp [ax, *]; done) | grind [ax]
 exact ⟨[iI 1],by kernel_rfl,fun w' hb hf => by rw [hmod]; exact ⟨rfl,hb⟩⟩
 have h11n := bj h11
 refine kQ <| em 3 [60,62] [(60,.v (.agg (a6 c (cS Z c Y)).toArray)),(62,aI g.ack)] 95 [.agg (a6 c (cS Z c Y)).toArray,iI g.ack] (some 63) rfl (br fun ww hf => sAckFits_c c.t.ip c.t.port c.t.my c.state c.s.una c.s.data c.s.sent c.s.fin c.s.finSent c.s.done c.r.next c.r.data c.r.held (cS Z c Y) c.r.fin c.r.done c.window c.most c.o.mss c.o.scale c.o.sack c.o.stamp c.o.val c.o.echo c.timer c.tries g.ack ww ) ?_
 intro _
 refine aD [59] [(59,aB (!(fk c g.ack)))] <| kC (!(fk c g.ack)) (fun h12 => ?_) (fun h12 => ?_)
 have h12n := co h12
 refine kQ <| aD [4] [(4,aI 3)] <| kR ?_
 have hmod : ax c g = 3 := by first | rfl | (simp [ax, *]; done) | grind [ax]
 exact ⟨[iI 3],by kernel_rfl,fun w' hb hf => by rw [hmod]; exact ⟨rfl,hb⟩⟩
 have h12n := bj h12
 refine kK <| kQ <| aD [4] [(4,aI 5)] <| kR ?_
 have hmod : ax c g = 5 := by first | rfl | (simp [ax, *]; done) | grind [ax]
 exact ⟨[iI 5],by kernel_rfl,fun w' hb hf => by rw [hmod]; exact ⟨rfl,hb⟩⟩
theorem yClonePiece_c (a : List Pce) (aV : Value) (w : World) (hl_aV : Sl w aV 2 (a.map pC)) (hkn : a.length ≤ 1048576) (B : Nat) (hB : B ≤ w.heap.size) : Calls Try.prog 51 #[aV] w fun e w' => XRs w w' e (α := Option Addr × Nat) (fun y => .slice y.1 a.length y.2) (fun y => [aC B (.slice y.1 a.length y.2) 2 (a.map pC)]) := by
 obtain ⟨Aa,Ca,hva⟩ := hl_aV.form
 rw [List.length_map] at hva; subst hva
 have hna := hl_aV.len; rw [List.length_map] at hna
 have hqa := Sl.capLe hl_aV
 have hnil := fun h => Sl.nil_of h hl_aV
 refine bJ (args := [.slice Aa a.length Ca]) (fn := Try.f51) [bz (.slice Aa a.length Ca) 2 (a.map pC)] Try.func51 rfl Try.ntmps51 rfl (by simp only [List.mem_cons,List.not_mem_nil,or_false,forall_eq_or_imp,forall_eq]; exact ⟨rfl,hl_aV⟩) ?_
 refine kQ <| cv [0] ⟨[(0,.v (.slice Aa a.length Ca))],[],[],[bz (.slice Aa a.length Ca) 2 (a.map pC)]⟩ <| kS <| kQ <| kOS 1 [0,3] [(0,.v (.slice Aa a.length Ca)),(3,.v (.slice Aa a.length Ca))] (.bool Aa.isNone) rfl (fun _ _ _ ww hr => act_nilEq (e := 72) hr.1 rfl (by kernel_rfl) rfl rfl ww) ?_
 refine aD [0,4] [(0,.v (.slice Aa a.length Ca)),(4,aB Aa.isNone)] <| kC (Aa.isNone) (fun h1 => ?_) (fun h1 => ?_)
 refine kQ <| aD [2] [(2,.v (.slice none 0 0))] <| kR ?_
 have hmod : a = [] := by exact hnil (by assumption)
 exact ⟨[.slice none 0 0],by kernel_rfl,fun w' hb hf ha => by rw [hmod]; exact xo1 ((none,0)) rfl rfl ⟨.inl ⟨rfl,_,rfl⟩,fun b hb => (hb.1 rfl).elim⟩ hb⟩
 refine kK <| kQ <| kHS 0 [0] [(0,.v (.slice Aa a.length Ca))] rfl (aQ (e := 72) (K := 2) (bytes := 24) [] (rs := ([] : List Pce).map pC) rfl rfl) ?_
 intro g2
 refine kHS 1 [5,6] [(5,.v (.slice (some ⟨g2,0,none⟩) 0 0)),(6,.v (.slice Aa a.length Ca))] rfl (aG (e := 72) (K := 2) (bytes := 24) (i := 0) (q := a.length) (new := a.map pC) (rs' := a.map pC) rfl rfl rfl rfl (by kernel_rfl) (by kernel_rfl) (by kernel_rfl) rfl (by simp) rfl (by simp) (fun ww hf => (hf (bz (.slice Aa a.length Ca) 2 (a.map pC)) (by simp))) (by intro r hr; obtain ⟨x,hx,rfl⟩ := List.mem_map.1 hr; exact ⟨rfl,by simp [pC,Value.oneCell']⟩) (by (try simp only [List.length_map,List.length_append,List.length_cons,List.length_nil,List.length_take,List.length_drop,maxLen]); omega) (by (try simp only [List.length_map,List.length_append,List.length_cons,List.length_nil,List.length_take,List.length_drop,maxLen]); omega)) ?_
 rintro ⟨v3a,v3c⟩
 refine aD [2] [(2,.v (.slice v3a a.length v3c))] <| kR ?_
 exact ⟨[.slice v3a a.length v3c],by kernel_rfl,fun w' hb hf ha => by exact xo1 ((v3a,v3c)) rfl rfl (pR (hf _ m0) hB) hb⟩
theorem fO (r : Rcv) (r_heldV : Value) (w : World) (hl_r_heldV : Sl w r_heldV 2 (r.held.map pC)) (hkn : r.held.length ≤ 1048576) (B : Nat) (hB : B ≤ w.heap.size) : Calls Try.prog 34 #[.agg (ab r r_heldV).toArray] w fun e w' => XRs w w' e (α := Option Addr × Nat) (fun y => .agg (ab r (.slice y.1 r.held.length y.2)).toArray) (fun y => [a9 B 72 2 (.slice y.1 r.held.length y.2) (r.held.map pC)]) := by
 obtain ⟨Arh,Crh,hvrh⟩ := hl_r_heldV.form
 rw [List.length_map] at hvrh; subst hvrh
 have hnrh := hl_r_heldV.len; rw [List.length_map] at hnrh
 have hqrh := Sl.capLe hl_r_heldV
 refine bJ (args := [.agg (ab r (.slice Arh r.held.length Crh)).toArray]) (fn := Try.f34) [bz (.slice Arh r.held.length Crh) 2 (r.held.map pC)] Try.func34 rfl Try.ntmps34 rfl (by simp only [List.mem_cons,List.not_mem_nil,or_false,forall_eq_or_imp,forall_eq]; exact ⟨rfl,hl_r_heldV⟩) ?_
 refine kQ <| cv [1,2] ⟨[(1,.p 0 0),(2,.p 1 0)],[⟨46,ab r (.slice Arh r.held.length Crh)⟩,⟨46,eV⟩],[],[bz (.slice Arh r.held.length Crh) 2 (r.held.map pC)]⟩ <| kQ <| kHS 0 [1,2] [(1,.p 0 0),(2,.p 1 0)] rfl (aQ (e := 72) (K := 2) (bytes := 24) [] (rs := ([] : List Pce).map pC) rfl rfl) ?_
 intro g1
 refine kHS 2 [1,2,3,5] [(1,.p 0 0),(2,.p 1 0),(3,.v (.slice (some ⟨g1,0,none⟩) 0 0)),(5,.v (.slice Arh r.held.length Crh))] rfl (aG (e := 72) (K := 2) (bytes := 24) (i := 0) (q := r.held.length) (new := r.held.map pC) (rs' := r.held.map pC) rfl rfl rfl rfl (by kernel_rfl) (by kernel_rfl) (by kernel_rfl) rfl (by simp) rfl (by simp) (fun ww hf => (hf (bz (.slice Arh r.held.length Crh) 2 (r.held.map pC)) (by simp))) (by intro r hr; obtain ⟨x,hx,rfl⟩ := List.mem_map.1 hr; exact ⟨rfl,by simp [pC,Value.oneCell']⟩) (by (try simp only [List.length_map,List.length_append,List.length_cons,List.length_nil,List.length_take,List.length_drop,maxLen]); omega) (by (try simp only [List.length_map,List.length_append,List.length_cons,List.length_nil,List.length_take,List.length_drop,maxLen]); omega)) ?_
 rintro ⟨v2a,v2c⟩
 refine cv [1,2] ⟨[(1,.p 0 0),(2,.p 1 0)],[⟨46,ab r (.slice v2a r.held.length v2c)⟩,⟨46,eV⟩],[],[a9 w.heap.size 72 2 (.slice v2a r.held.length v2c) (r.held.map pC),bz (.slice Arh r.held.length Crh) 2 (r.held.map pC)]⟩ <| kQ <| cv [2] ⟨[(2,.p 1 0)],[⟨46,ab r (.slice v2a r.held.length v2c)⟩,⟨46,ab r (.slice v2a r.held.length v2c)⟩],[],[a9 w.heap.size 72 2 (.slice v2a r.held.length v2c) (r.held.map pC),bz (.slice Arh r.held.length Crh) 2 (r.held.map pC)]⟩ <| kR ?_
 exact ⟨[.agg (ab r (.slice v2a r.held.length v2c)).toArray],by kernel_rfl,fun w' hb hf ha => by exact xo1 ((v2a,v2c)) rfl rfl (pW (hf _ m0) hB) hb⟩
theorem ycloneReceiver_c (r : Rcv) (r_heldV : Value) (w : World) (hl_r_heldV : Sl w r_heldV 2 (r.held.map pC)) (hkn : r.held.length ≤ 1048576) (B : Nat) (hB : B ≤ w.heap.size) : Calls Try.prog 33 #[.agg (ab r r_heldV).toArray] w fun e w' => XRs w w' e (α := Option Addr × Nat) (fun y => .agg (ab r (.slice y.1 r.held.length y.2)).toArray) (fun y => [aC B (.slice y.1 r.held.length y.2) 2 (r.held.map pC)]) := by
 obtain ⟨Arh,Crh,hvrh⟩ := hl_r_heldV.form
 rw [List.length_map] at hvrh; subst hvrh
 have hnrh := hl_r_heldV.len; rw [List.length_map] at hnrh
 have hqrh := Sl.capLe hl_r_heldV
 refine bJ (args := [.agg (ab r (.slice Arh r.held.length Crh)).toArray]) (fn := Try.f33) [bz (.slice Arh r.held.length Crh) 2 (r.held.map pC)] Try.func33 rfl Try.ntmps33 rfl (by simp only [List.mem_cons,List.not_mem_nil,or_false,forall_eq_or_imp,forall_eq]; exact ⟨rfl,hl_r_heldV⟩) ?_
 refine kQ <| cv [1,2] ⟨[(1,.p 0 0),(2,.p 1 0)],[⟨46,ab r (.slice Arh r.held.length Crh)⟩,⟨46,eV⟩],[],[bz (.slice Arh r.held.length Crh) 2 (r.held.map pC)]⟩ <| kQ <| em 2 [1,2,4] [(1,.p 0 0),(2,.p 1 0),(4,.v (.slice Arh r.held.length Crh))] 51 [.slice Arh r.held.length Crh] (some 5) rfl (cm fun ww hw hf => yClonePiece_c r.held (.slice Arh r.held.length Crh) ww (hf _ m0) (by assumption) w.heap.size hw) ?_
 rintro ⟨v1a,v1c⟩
 refine cv [1,2] ⟨[(1,.p 0 0),(2,.p 1 0)],[⟨46,ab r (.slice v1a r.held.length v1c)⟩,⟨46,eV⟩],[],[aC w.heap.size (.slice v1a r.held.length v1c) 2 (r.held.map pC),bz (.slice Arh r.held.length Crh) 2 (r.held.map pC)]⟩ <| kQ <| cv [2] ⟨[(2,.p 1 0)],[⟨46,ab r (.slice v1a r.held.length v1c)⟩,⟨46,ab r (.slice v1a r.held.length v1c)⟩],[],[aC w.heap.size (.slice v1a r.held.length v1c) 2 (r.held.map pC),bz (.slice Arh r.held.length Crh) 2 (r.held.map pC)]⟩ <| kR ?_
 exact ⟨[.agg (ab r (.slice v1a r.held.length v1c)).toArray],by kernel_rfl,fun w' hb hf ha => by exact xo1 ((v1a,v1c)) rfl rfl (pO (hf _ m0) hB) hb⟩
theorem cV (c : Con) (rV : Value) (w : World) (hZ : Sl w rV 2 (c.r.held.map pC)) (hkn : c.r.held.length ≤ 1048576) (B : Nat) (hB : B ≤ w.heap.size) : Calls Try.prog 22 #[.agg (a6 c rV).toArray] w fun e w' => XRs w w' e (α := Option Addr × Nat) (fun y => .agg (a6 c (.slice y.1 c.r.held.length y.2)).toArray) (fun y => [aC B (.slice y.1 c.r.held.length y.2) 2 (c.r.held.map pC)]) := by
 obtain ⟨Z,Y,hY⟩ := hZ.form
 rw [List.length_map] at hY; subst hY
 have hJ := hZ.len; rw [List.length_map] at hJ
 have hqcrh := Sl.capLe hZ
 refine bJ (args := [.agg (a6 c (cS Z c Y)).toArray]) (fn := Try.f22) [cH Z c Y] Try.func22 rfl Try.ntmps22 rfl (by simp only [List.mem_cons,List.not_mem_nil,or_false,forall_eq_or_imp,forall_eq]; exact ⟨rfl,hZ⟩) ?_
 refine kQ <| cv [1,2] ⟨[(1,.p 0 0),(2,.p 1 0)],[⟨50,a6 c (cS Z c Y)⟩,⟨50,ce⟩],[],[cH Z c Y]⟩ <| kQ <| em 2 [1,2,4] [(1,.p 0 0),(2,.p 1 0),(4,.v (.agg (ab c.r (cS Z c Y)).toArray))] 34 [.agg (ab c.r (cS Z c Y)).toArray] (some 5) rfl (cm fun ww hw hf => fO c.r (cS Z c Y) ww (hf _ m0) (by assumption) w.heap.size hw) ?_
 rintro ⟨v1a,v1c⟩
 refine cv [1,2] ⟨[(1,.p 0 0),(2,.p 1 0)],[⟨50,a6 c (cS v1a c v1c)⟩,⟨50,ce⟩],[],[a9 w.heap.size 72 2 (cS v1a c v1c) (c.r.held.map pC),cH Z c Y]⟩ <| kQ <| cv [2] ⟨[(2,.p 1 0)],[⟨50,a6 c (cS v1a c v1c)⟩,⟨50,a6 c (cS v1a c v1c)⟩],[],[a9 w.heap.size 72 2 (cS v1a c v1c) (c.r.held.map pC),cH Z c Y]⟩ <| kR ?_
 exact ⟨[.agg (a6 c (cS v1a c v1c)).toArray],by kernel_rfl,fun w' hb hf ha => by exact xo1 ((v1a,v1c)) rfl rfl (pR (hf _ m0) hB) hb⟩
theorem ycloneConn_c (c : Con) (rV : Value) (w : World) (hZ : Sl w rV 2 (c.r.held.map pC)) (hkn : c.r.held.length ≤ 1048576) (B : Nat) (hB : B ≤ w.heap.size) : Calls Try.prog 21 #[.agg (a6 c rV).toArray] w fun e w' => XRs w w' e (α := Option Addr × Nat) (fun y => .agg (a6 c (.slice y.1 c.r.held.length y.2)).toArray) (fun y => [aC B (.slice y.1 c.r.held.length y.2) 2 (c.r.held.map pC)]) := by
 obtain ⟨Z,Y,hY⟩ := hZ.form
 rw [List.length_map] at hY; subst hY
 have hJ := hZ.len; rw [List.length_map] at hJ
 have hqcrh := Sl.capLe hZ
 refine bJ (args := [.agg (a6 c (cS Z c Y)).toArray]) (fn := Try.f21) [cH Z c Y] Try.func21 rfl Try.ntmps21 rfl (by simp only [List.mem_cons,List.not_mem_nil,or_false,forall_eq_or_imp,forall_eq]; exact ⟨rfl,hZ⟩) ?_
 refine kQ <| cv [1,2] ⟨[(1,.p 0 0),(2,.p 1 0)],[⟨50,a6 c (cS Z c Y)⟩,⟨50,ce⟩],[],[cH Z c Y]⟩ <| kQ <| em 2 [1,2,4] [(1,.p 0 0),(2,.p 1 0),(4,.v (.agg (ab c.r (cS Z c Y)).toArray))] 33 [.agg (ab c.r (cS Z c Y)).toArray] (some 5) rfl (cm fun ww hw hf => ycloneReceiver_c c.r (cS Z c Y) ww (hf _ m0) (by assumption) w.heap.size hw) ?_
 rintro ⟨v1a,v1c⟩
 refine cv [1,2] ⟨[(1,.p 0 0),(2,.p 1 0)],[⟨50,a6 c (cS v1a c v1c)⟩,⟨50,ce⟩],[],[aC w.heap.size (cS v1a c v1c) 2 (c.r.held.map pC),cH Z c Y]⟩ <| kQ <| cv [2] ⟨[(2,.p 1 0)],[⟨50,a6 c (cS v1a c v1c)⟩,⟨50,a6 c (cS v1a c v1c)⟩],[],[aC w.heap.size (cS v1a c v1c) 2 (c.r.held.map pC),cH Z c Y]⟩ <| kR ?_
 exact ⟨[.agg (a6 c (cS v1a c v1c)).toArray],by kernel_rfl,fun w' hb hf ha => by exact xo1 ((v1a,v1c)) rfl rfl (pO (hf _ m0) hB) hb⟩
theorem yCloneTuple_c (a : List Tup) (aV : Value) (w : World) (hl_aV : Sl w aV 3 (a.map a8)) (hkn : a.length ≤ 1048576) (B : Nat) (hB : B ≤ w.heap.size) : Calls Try.prog 20 #[aV] w fun e w' => XRs w w' e (α := Option Addr × Nat) (fun y => .slice y.1 a.length y.2) (fun y => [a9 B 30 3 (.slice y.1 a.length y.2) (a.map a8)]) := by
 obtain ⟨Aa,Ca,hva⟩ := hl_aV.form
 rw [List.length_map] at hva; subst hva
 have hna := hl_aV.len; rw [List.length_map] at hna
 have hqa := Sl.capLe hl_aV
 have hnil := fun h => Sl.nil_of h hl_aV
 refine bJ (args := [.slice Aa a.length Ca]) (fn := Try.f20) [bz (.slice Aa a.length Ca) 3 (a.map a8)] Try.func20 rfl Try.ntmps20 rfl (by simp only [List.mem_cons,List.not_mem_nil,or_false,forall_eq_or_imp,forall_eq]; exact ⟨rfl,hl_aV⟩) ?_
 refine kQ <| cv [0] ⟨[(0,.v (.slice Aa a.length Ca))],[],[],[bz (.slice Aa a.length Ca) 3 (a.map a8)]⟩ <| kS <| kQ <| kOS 1 [0,3] [(0,.v (.slice Aa a.length Ca)),(3,.v (.slice Aa a.length Ca))] (.bool Aa.isNone) rfl (fun _ _ _ ww hr => act_nilEq (e := 30) hr.1 rfl (by kernel_rfl) rfl rfl ww) ?_
 refine aD [0,4] [(0,.v (.slice Aa a.length Ca)),(4,aB Aa.isNone)] <| kC (Aa.isNone) (fun h1 => ?_) (fun h1 => ?_)
 refine kQ <| aD [2] [(2,.v (.slice none 0 0))] <| kR ?_
 have hmod : a = [] := by exact hnil (by assumption)
 exact ⟨[.slice none 0 0],by kernel_rfl,fun w' hb hf ha => by rw [hmod]; exact xo1 ((none,0)) rfl rfl ⟨rowF_nil _ _ _ _,fun b hb => (nilF_b _ _ _ _ hb).elim⟩ hb⟩
 refine kK <| kQ <| kHS 0 [0] [(0,.v (.slice Aa a.length Ca))] rfl (aQ (e := 30) (K := 3) (bytes := 24) [] (rs := ([] : List Tup).map a8) rfl rfl) ?_
 intro g2
 refine kHS 1 [5,6] [(5,.v (.slice (some ⟨g2,0,none⟩) 0 0)),(6,.v (.slice Aa a.length Ca))] rfl (aG (e := 30) (K := 3) (bytes := 24) (i := 0) (q := a.length) (new := a.map a8) (rs' := a.map a8) rfl rfl rfl rfl (by kernel_rfl) (by kernel_rfl) (by kernel_rfl) rfl (by simp) rfl (by simp) (fun ww hf => (hf (bz (.slice Aa a.length Ca) 3 (a.map a8)) (by simp))) (by intro r hr; obtain ⟨x,hx,rfl⟩ := List.mem_map.1 hr; exact ⟨rfl,by simp [a8,Value.oneCell']⟩) (by (try simp only [List.length_map,List.length_append,List.length_cons,List.length_nil,List.length_take,List.length_drop,maxLen]); omega) (by (try simp only [List.length_map,List.length_append,List.length_cons,List.length_nil,List.length_take,List.length_drop,maxLen]); omega)) ?_
 rintro ⟨v3a,v3c⟩
 refine aD [2] [(2,.v (.slice v3a a.length v3c))] <| kR ?_
 exact ⟨[.slice v3a a.length v3c],by kernel_rfl,fun w' hb hf ha => by exact xo1 ((v3a,v3c)) rfl rfl (pW (hf _ m0) hB) hb⟩
theorem yl25Copy_c (t : Tab) (t_connsV : Value) (t_waitingV : Value) (w : World) (hl_t_connsV : Sl w t_connsV 25 (t.conns.map ak)) (hh_t_connsV : ∀ x ∈ t.conns, Sl w x.2 2 (x.1.r.held.map pC)) (hl_t_waitingV : Sl w t_waitingV 3 (t.waiting.map a8)) (hfit : ∀ x ∈ t.conns, bO x.1) (hln : t.conns.length ≤ 1048576) (hlw : t.waiting.length ≤ 1048576) (B : Nat) (hB : B ≤ w.heap.size) : Calls Try.prog 12 #[.agg (bU t t_connsV t_waitingV).toArray] w fun e w' => XRs w w' e (α := {cs : List CV // pl cs = pl t.conns} × (Option Addr × Nat) × (Option Addr × Nat)) (fun y => .agg #[.slice y.2.1.1 y.1.1.length y.2.1.2, .slice y.2.2.1 t.waiting.length y.2.2.2]) (fun y => [a9 B 50 25 (.slice y.2.1.1 y.1.1.length y.2.1.2) (y.1.1.map ak), cd B y.1.1, a9 B 30 3 (.slice y.2.2.1 t.waiting.length y.2.2.2) (t.waiting.map a8)]) := by
 obtain ⟨Atc,Ctc,hvtc⟩ := hl_t_connsV.form
 rw [List.length_map] at hvtc; subst hvtc
 have hntc := hl_t_connsV.len; rw [List.length_map] at hntc
 have hqtc := Sl.capLe hl_t_connsV
 obtain ⟨Atw,Ctw,hvtw⟩ := hl_t_waitingV.form
 rw [List.length_map] at hvtw; subst hvtw
 have hntw := hl_t_waitingV.len; rw [List.length_map] at hntw
 have hqtw := Sl.capLe hl_t_waitingV
 refine bJ (args := [.agg (bU t (.slice Atc t.conns.length Ctc) (.slice Atw t.waiting.length Ctw)).toArray]) (fn := Try.f12) [bz (.slice Atc t.conns.length Ctc) 25 (t.conns.map ak),dV t.conns,bz (.slice Atw t.waiting.length Ctw) 3 (t.waiting.map a8)] Try.func12 rfl Try.ntmps12 rfl (by simp only [List.mem_cons,List.not_mem_nil,or_false,forall_eq_or_imp,forall_eq]; exact ⟨⟨rfl,hl_t_connsV⟩,⟨rfl,hh_t_connsV⟩,⟨rfl,hl_t_waitingV⟩⟩) ?_
 refine kQ <| cv [1,2] ⟨[(1,.p 0 0),(2,.p 1 0)],[⟨27,bU t (.slice Atc t.conns.length Ctc) (.slice Atw t.waiting.length Ctw)⟩,⟨27,[.slice none 0 0,.slice none 0 0]⟩],[],[bz (.slice Atc t.conns.length Ctc) 25 (t.conns.map ak),dV t.conns,bz (.slice Atw t.waiting.length Ctw) 3 (t.waiting.map a8)]⟩ <| kQ <| kHD 0 [1,2] [] rfl (aQ (e := 30) (K := 3) (bytes := 24) [] (rs := ([] : List Tup).map a8) rfl rfl) ?_
 intro g1
 refine kHD 2 [1,2,5,7] [(7,.v (.slice Atw t.waiting.length Ctw))] rfl (aG (e := 30) (K := 3) (bytes := 24) (i := 0) (q := t.waiting.length) (new := t.waiting.map a8) (rs' := t.waiting.map a8) rfl rfl rfl rfl (by kernel_rfl) (by kernel_rfl) (by kernel_rfl) rfl (by simp) rfl (by simp) (fun ww hf => (hf (bz (.slice Atw t.waiting.length Ctw) 3 (t.waiting.map a8)) (by simp))) (by intro r hr; obtain ⟨x,hx,rfl⟩ := List.mem_map.1 hr; exact ⟨rfl,by simp [a8,Value.oneCell']⟩) (by (try simp only [List.length_map,List.length_append,List.length_cons,List.length_nil,List.length_take,List.length_drop,maxLen]); omega) (by (try simp only [List.length_map,List.length_append,List.length_cons,List.length_nil,List.length_take,List.length_drop,maxLen]); omega)) ?_
 rintro ⟨v2a,v2c⟩
 refine fD 0 [1,2,8] [] (.agg (bU { t with conns := [] } (.slice none 0 0) (.slice v2a t.waiting.length v2c)).toArray) rfl (fun _ _ _ ww hr => aH [(1,.slice v2a t.waiting.length v2c)] hr.1 rfl (by kernel_rfl) (by kernel_rfl) ww) ?_
 refine kEA [1,2,3] [(3,.p 2 0)] [⟨27,bU { t with conns := [] } (.slice none 0 0) (.slice v2a t.waiting.length v2c)⟩] <| kS <| kQ <| aU [1,2,3,4] [(4,aI 0)] ?_
 refine aj <| gh (a9 w.heap.size 50 25 (.slice none 0 0) []) (fun ww hww => nilF_p _ _ ww hww) (fun b => nilF_b _ _ _ b) <| gh (cd w.heap.size ([])) hownF_nilp (fun b => hownF_nob) <| bI (α := {x : Nat × List CV × Option Addr × Nat // (fun (i : Nat) (L : List CV) (A : Option Addr) (cap : Nat) => i ≤ t.conns.length ∧ pl L = (pl t.conns).take i) x.1 x.2.1 x.2.2.1 x.2.2.2}) (fun x => (fun (i : Nat) (L : List CV) (A : Option Addr) (cap : Nat) => (⟨[(1,.p 0 0),(2,.p 1 0),(3,.p 2 0),(4,aI (i : Int))],[⟨27,bU t (.slice Atc t.conns.length Ctc) (.slice Atw t.waiting.length Ctw)⟩,⟨27,[.slice none 0 0,.slice none 0 0]⟩,⟨27,bU { t with conns := L } (.slice A L.length cap) (.slice v2a t.waiting.length v2c)⟩],[],[cd w.heap.size L,a9 w.heap.size 50 25 (.slice A L.length cap) (L.map ak),a9 w.heap.size 30 3 (.slice v2a t.waiting.length v2c) (t.waiting.map a8),bz (.slice Atc t.conns.length Ctc) 25 (t.conns.map ak),dV t.conns,bz (.slice Atw t.waiting.length Ctw) 3 (t.waiting.map a8)]⟩ : St)) x.1.1 x.1.2.1 x.1.2.2.1 x.1.2.2.2) (fun x => (fun (i : Nat) (L : List CV) (A : Option Addr) (cap : Nat) => t.conns.length - i) x.1.1 x.1.2.1 x.1.2.2.1 x.1.2.2.2) ⟨(0,([] : List CV),none,0),⟨Nat.zero_le _,rfl⟩⟩ (kF 3 0 [1,2,3,4]) ?_
 rintro ⟨⟨i,L,A,cap⟩,hi,HL⟩
 try dsimp only
 try dsimp only at hi HL
 refine kS <| kQ <| aU [1,2,3,4,14] [(14,aB (decide ((i : Int) < ((t.conns.length : Nat) : Int))))] <| kC (decide ((i : Int) < ((t.conns.length : Nat) : Int))) (fun h3 => ?_) (fun h3 => ?_)
 have h3p := of_decide_eq_true h3
 have hlt : i < t.conns.length := by simpa using h3
 obtain ⟨x0,hx⟩ : ∃ x,t.conns[i]? = some x := ⟨_,List.getElem?_eq_getElem hlt⟩
 obtain ⟨x,xa,xc,rfl⟩ := gi (hh_t_connsV x0 (List.mem_of_getElem? hx))
 have hft_x : bO x := hfit _ (List.mem_of_getElem? hx)
 obtain ⟨hfs_x,hfr_x,hfh_x,hfp_x⟩ := hft_x
 have hLl := pl_take_len HL hi
 obtain ⟨bb,ob,hbb⟩ := sl_block hl_t_connsV (show (t.conns.map ak)[i]? = some _ from by rw [List.getElem?_map,hx]; rfl)
 refine kK <| kS <| aj <| ef (α := Option Addr × Nat × Option Addr × Nat × Nat) (fun y => (fun (v4a : Option Addr) (v4c : Nat) (v8a : Option Addr) (v8c : Nat) (g6 : Nat) => (⟨[(1,.p 0 0),(2,.p 1 0),(3,.p 2 0),(4,aI (i : Int))],[⟨27,bU t (.slice Atc t.conns.length Ctc) (.slice Atw t.waiting.length Ctw)⟩,⟨27,[.slice none 0 0,.slice none 0 0]⟩,⟨27,bU { t with conns := (L ++ ([((x,.slice v4a x.r.held.length v4c) : CV)] : List CV)) } (.slice v8a ((L ++ ([((x,.slice v4a x.r.held.length v4c) : CV)] : List CV)).length) v8c) (.slice v2a t.waiting.length v2c)⟩],[],[a9 w.heap.size 50 25 (.slice v8a ((L ++ ([((x,.slice v4a x.r.held.length v4c) : CV)] : List CV)).length) v8c) ((L ++ ([((x,.slice v4a x.r.held.length v4c) : CV)] : List CV)).map ak),a9 w.heap.size 50 25 (.slice (some ⟨g6,0,none⟩) 1 1) (([((x,.slice v4a x.r.held.length v4c) : CV)] : List CV).map ak),aC w.heap.size (cS v4a x v4c) 2 (x.r.held.map pC),cd w.heap.size L,a9 w.heap.size 30 3 (.slice v2a t.waiting.length v2c) (t.waiting.map a8),bz (.slice Atc t.conns.length Ctc) 25 (t.conns.map ak),dV t.conns,bz (.slice Atw t.waiting.length Ctw) 3 (t.waiting.map a8)]⟩ : St)) y.1 y.2.1 y.2.2.1 y.2.2.2.1 y.2.2.2.2) ?_ ?_
 refine bw [true,true,false] (by kernel_rfl) (fun ρ σ => ?_)
 refine d3 [0,2,3,4] [21,20,17,1,2,3,4] 8 [(21,aI (i : Int)),(20,.v (.slice Atc t.conns.length Ctc)),(17,.p 2 0)] <| kX 5 (.pointer (some ⟨bb,ob + i * 25,none⟩)) rfl (fun _ _ ww hA => act_ixO (kd := .i64) (T := 24) (e := 50) (K := 25) (b := bb) (off := ob) (N := t.conns.length) (cap := Ctc) i hbb hA rfl rfl (by kernel_rfl) (by kernel_rfl) (by kernel_rfl) hlt ww) ?_
 refine kA [1,6] ⟨?_,?_⟩
 refine e6 1 (.v (.slice A L.length cap)) rfl <| kA [6] <| kSR 6 (.agg (a6 x (cS xa x xc)).toArray) rfl (fun _ _ ww hr => ldQ_run (po := 0) (j := i) (row := [iI x.t.ip,iI x.t.port,iI x.t.my,iI x.state,iI x.s.una,.string x.s.data,iI x.s.sent,.bool x.s.fin,.bool x.s.finSent,.bool x.s.done,iI x.r.next,.string x.r.data,.slice xa x.r.held.length xc,iI x.r.fin,.bool x.r.done,iI x.window,iI x.most,iI x.o.mss,iI x.o.scale,.bool x.o.sack,.bool x.o.stamp,iI x.o.val,iI x.o.echo,iI x.timer,iI x.tries]) (bz (.slice Atc t.conns.length Ctc) 25 (t.conns.map ak)) (fun w h => h) hr rfl (by kernel_rfl) (by simp) (by simp only [List.getElem?_map,hx]; rfl) (by kernel_rfl) hbb) ?_
 refine kA [7] <| d8 7 22 [.agg (a6 x (cS xa x xc)).toArray] (some 24) rfl (cm fun ww hw hf => cV x (cS xa x xc) ww ((hf _ m4) (x,.slice xa x.r.held.length xc) (List.mem_of_getElem? hx)) (by assumption) w.heap.size hw) ?_
 rintro ⟨v4a,v4c⟩
 refine kA [8] <| dG 8 rfl (a5 (a5 (aq rfl a7))) (aQ (e := 50) (K := 25) (bytes := 208) [.agg (a6 x (cS v4a x v4c)).toArray] (rs := ([((x,.slice v4a x.r.held.length v4c) : CV)] : List CV).map ak) (by rfl) rfl) ?_
 intro g6
 refine kA [9] <| dG 9 rfl (a5 (a5 (aq rfl a7))) (aG (e := 50) (K := 25) (bytes := 208) (i := 3) (q := (L ++ ([((x,.slice v4a x.r.held.length v4c) : CV)] : List CV)).length) (new := ([((x,.slice v4a x.r.held.length v4c) : CV)] : List CV).map ak) (rs' := (L ++ ([((x,.slice v4a x.r.held.length v4c) : CV)] : List CV)).map ak) rfl rfl rfl rfl (by kernel_rfl) (by kernel_rfl) (by kernel_rfl) rfl (by simp) (by rw [List.map_append]) (by simp) (fun ww hf => (au (hf (a9 w.heap.size 50 25 (.slice (some ⟨g6,0,none⟩) 1 1) (([((x,.slice v4a x.r.held.length v4c) : CV)] : List CV).map ak)) (by simp)))) (by intro r hr; simp only [List.map_cons,List.map_nil,List.mem_singleton] at hr; subst hr; exact ⟨rfl,by simp [ak,a6,Value.oneCell']⟩) (by (try simp only [List.length_map,List.length_append,List.length_cons,List.length_nil,List.length_take,List.length_drop,maxLen]); omega) (by (try simp only [List.length_map,List.length_append,List.length_cons,List.length_nil,List.length_take,List.length_drop,maxLen]); omega)) ?_
 rintro ⟨v8a,v8c⟩
 refine d3 [10] [27,26,1,2,3,4] 1 [(27,.p 2 0)] <| kA [11] <| dp 11 2 0 [.slice v8a ((L ++ ([((x,.slice v4a x.r.held.length v4c) : CV)] : List CV)).length) v8c] rfl <| kZ ?_
 exact ⟨(v4a,v4c,v8a,v8c,g6),kF 3 0 [1,2,3,4]⟩
 refine kSR 6 (.agg (a6 x (cS xa x xc)).toArray) rfl (fun _ _ ww hr => ldQ_run (po := 0) (j := i) (row := [iI x.t.ip,iI x.t.port,iI x.t.my,iI x.state,iI x.s.una,.string x.s.data,iI x.s.sent,.bool x.s.fin,.bool x.s.finSent,.bool x.s.done,iI x.r.next,.string x.r.data,.slice xa x.r.held.length xc,iI x.r.fin,.bool x.r.done,iI x.window,iI x.most,iI x.o.mss,iI x.o.scale,.bool x.o.sack,.bool x.o.stamp,iI x.o.val,iI x.o.echo,iI x.timer,iI x.tries]) (bz (.slice Atc t.conns.length Ctc) 25 (t.conns.map ak)) (fun w h => h) hr rfl (by kernel_rfl) (by simp) (by simp only [List.getElem?_map,hx]; rfl) (by kernel_rfl) hbb) ?_
 refine kA [1,7] ⟨?_,?_⟩
 refine e6 1 (.v (.slice A L.length cap)) rfl <| kA [7] <| d8 7 22 [.agg (a6 x (cS xa x xc)).toArray] (some 24) rfl (cm fun ww hw hf => cV x (cS xa x xc) ww ((hf _ m4) (x,.slice xa x.r.held.length xc) (List.mem_of_getElem? hx)) (by assumption) w.heap.size hw) ?_
 rintro ⟨v9a,v9c⟩
 refine kA [8] <| dG 8 rfl (a5 (a5 (aq rfl a7))) (aQ (e := 50) (K := 25) (bytes := 208) [.agg (a6 x (cS v9a x v9c)).toArray] (rs := ([((x,.slice v9a x.r.held.length v9c) : CV)] : List CV).map ak) (by rfl) rfl) ?_
 intro g11
 refine kA [9] <| dG 9 rfl (a5 (a5 (aq rfl a7))) (aG (e := 50) (K := 25) (bytes := 208) (i := 3) (q := (L ++ ([((x,.slice v9a x.r.held.length v9c) : CV)] : List CV)).length) (new := ([((x,.slice v9a x.r.held.length v9c) : CV)] : List CV).map ak) (rs' := (L ++ ([((x,.slice v9a x.r.held.length v9c) : CV)] : List CV)).map ak) rfl rfl rfl rfl (by kernel_rfl) (by kernel_rfl) (by kernel_rfl) rfl (by simp) (by rw [List.map_append]) (by simp) (fun ww hf => (au (hf (a9 w.heap.size 50 25 (.slice (some ⟨g11,0,none⟩) 1 1) (([((x,.slice v9a x.r.held.length v9c) : CV)] : List CV).map ak)) (by simp)))) (by intro r hr; simp only [List.map_cons,List.map_nil,List.mem_singleton] at hr; subst hr; exact ⟨rfl,by simp [ak,a6,Value.oneCell']⟩) (by (try simp only [List.length_map,List.length_append,List.length_cons,List.length_nil,List.length_take,List.length_drop,maxLen]); omega) (by (try simp only [List.length_map,List.length_append,List.length_cons,List.length_nil,List.length_take,List.length_drop,maxLen]); omega)) ?_
 rintro ⟨v13a,v13c⟩
 refine d3 [10] [27,26,1,2,3,4] 1 [(27,.p 2 0)] <| kA [11] <| dp 11 2 0 [.slice v13a ((L ++ ([((x,.slice v9a x.r.held.length v9c) : CV)] : List CV)).length) v13c] rfl <| kZ ?_
 exact ⟨(v9a,v9c,v13a,v13c,g11),kF 3 0 [1,2,3,4]⟩
 refine d8 7 22 [.agg (a6 x (cS xa x xc)).toArray] (some 24) rfl (cm fun ww hw hf => cV x (cS xa x xc) ww ((hf _ m4) (x,.slice xa x.r.held.length xc) (List.mem_of_getElem? hx)) (by assumption) w.heap.size hw) ?_
 rintro ⟨v14a,v14c⟩
 refine kA [1,8] ⟨?_,?_⟩
 refine e6 1 (.v (.slice A L.length cap)) rfl <| kA [8] <| dG 8 rfl (a5 (a5 (aq rfl a7))) (aQ (e := 50) (K := 25) (bytes := 208) [.agg (a6 x (cS v14a x v14c)).toArray] (rs := ([((x,.slice v14a x.r.held.length v14c) : CV)] : List CV).map ak) (by rfl) rfl) ?_
 intro g17
 refine kA [9] <| dG 9 rfl (a5 (a5 (aq rfl a7))) (aG (e := 50) (K := 25) (bytes := 208) (i := 3) (q := (L ++ ([((x,.slice v14a x.r.held.length v14c) : CV)] : List CV)).length) (new := ([((x,.slice v14a x.r.held.length v14c) : CV)] : List CV).map ak) (rs' := (L ++ ([((x,.slice v14a x.r.held.length v14c) : CV)] : List CV)).map ak) rfl rfl rfl rfl (by kernel_rfl) (by kernel_rfl) (by kernel_rfl) rfl (by simp) (by rw [List.map_append]) (by simp) (fun ww hf => (au (hf (a9 w.heap.size 50 25 (.slice (some ⟨g17,0,none⟩) 1 1) (([((x,.slice v14a x.r.held.length v14c) : CV)] : List CV).map ak)) (by simp)))) (by intro r hr; simp only [List.map_cons,List.map_nil,List.mem_singleton] at hr; subst hr; exact ⟨rfl,by simp [ak,a6,Value.oneCell']⟩) (by (try simp only [List.length_map,List.length_append,List.length_cons,List.length_nil,List.length_take,List.length_drop,maxLen]); omega) (by (try simp only [List.length_map,List.length_append,List.length_cons,List.length_nil,List.length_take,List.length_drop,maxLen]); omega)) ?_
 rintro ⟨v19a,v19c⟩
 refine d3 [10] [27,26,1,2,3,4] 1 [(27,.p 2 0)] <| kA [11] <| dp 11 2 0 [.slice v19a ((L ++ ([((x,.slice v14a x.r.held.length v14c) : CV)] : List CV)).length) v19c] rfl <| kZ ?_
 exact ⟨(v14a,v14c,v19a,v19c,g17),kF 3 0 [1,2,3,4]⟩
 refine dG 8 rfl (a5 (a5 (aq rfl a7))) (aQ (e := 50) (K := 25) (bytes := 208) [.agg (a6 x (cS v14a x v14c)).toArray] (rs := ([((x,.slice v14a x.r.held.length v14c) : CV)] : List CV).map ak) (by rfl) rfl) ?_
 intro g20
 refine kA [1] <| e6 1 (.v (.slice A L.length cap)) rfl <| kA [9] <| dG 9 rfl (a5 (a5 (aq rfl a7))) (aG (e := 50) (K := 25) (bytes := 208) (i := 3) (q := (L ++ ([((x,.slice v14a x.r.held.length v14c) : CV)] : List CV)).length) (new := ([((x,.slice v14a x.r.held.length v14c) : CV)] : List CV).map ak) (rs' := (L ++ ([((x,.slice v14a x.r.held.length v14c) : CV)] : List CV)).map ak) rfl rfl rfl rfl (by kernel_rfl) (by kernel_rfl) (by kernel_rfl) rfl (by simp) (by rw [List.map_append]) (by simp) (fun ww hf => (au (hf (a9 w.heap.size 50 25 (.slice (some ⟨g20,0,none⟩) 1 1) (([((x,.slice v14a x.r.held.length v14c) : CV)] : List CV).map ak)) (by simp)))) (by intro r hr; simp only [List.map_cons,List.map_nil,List.mem_singleton] at hr; subst hr; exact ⟨rfl,by simp [ak,a6,Value.oneCell']⟩) (by (try simp only [List.length_map,List.length_append,List.length_cons,List.length_nil,List.length_take,List.length_drop,maxLen]); omega) (by (try simp only [List.length_map,List.length_append,List.length_cons,List.length_nil,List.length_take,List.length_drop,maxLen]); omega)) ?_
 rintro ⟨v22a,v22c⟩
 refine d3 [10] [27,26,1,2,3,4] 1 [(27,.p 2 0)] <| kA [11] <| dp 11 2 0 [.slice v22a ((L ++ ([((x,.slice v14a x.r.held.length v14c) : CV)] : List CV)).length) v22c] rfl <| kZ ?_
 exact ⟨(v14a,v14c,v22a,v22c,g20),kF 3 0 [1,2,3,4]⟩
 rintro ⟨v4a,v4c,v8a,v8c,g6⟩
 refine kG <| kRF 3 [1,2,3,4] ⟨[(1,.p 0 0),(2,.p 1 0),(3,.p 2 0),(4,aI (K6.wrap ((i : Int) + 1)))],[⟨27,bU t (.slice Atc t.conns.length Ctc) (.slice Atw t.waiting.length Ctw)⟩,⟨27,[.slice none 0 0,.slice none 0 0]⟩,⟨27,bU { t with conns := (L ++ ([((x,.slice v4a x.r.held.length v4c) : CV)] : List CV)) } (.slice v8a ((L ++ ([((x,.slice v4a x.r.held.length v4c) : CV)] : List CV)).length) v8c) (.slice v2a t.waiting.length v2c)⟩],[],[a9 w.heap.size 50 25 (.slice v8a ((L ++ ([((x,.slice v4a x.r.held.length v4c) : CV)] : List CV)).length) v8c) ((L ++ ([((x,.slice v4a x.r.held.length v4c) : CV)] : List CV)).map ak),a9 w.heap.size 50 25 (.slice (some ⟨g6,0,none⟩) 1 1) (([((x,.slice v4a x.r.held.length v4c) : CV)] : List CV).map ak),aC w.heap.size (cS v4a x v4c) 2 (x.r.held.map pC),cd w.heap.size L,a9 w.heap.size 30 3 (.slice v2a t.waiting.length v2c) (t.waiting.map a8),bz (.slice Atc t.conns.length Ctc) 25 (t.conns.map ak),dV t.conns,bz (.slice Atw t.waiting.length Ctw) 3 (t.waiting.map a8)]⟩ <| cJ [1,2,3,4] [(4,aI (K6.wrap ((i : Int) + 1)))] [(4,aI ((i : Int) + 1))] (by rw [show (K6.wrap ((i : Int) + 1)) = ((i : Int) + 1) from al (by omega) (by omega)]) (by kernel_rfl) ?_
 refine aU [1,2,3,4] [] ?_
 exact ⟨⟨(i + 1,(L ++ ([((x,.slice v4a x.r.held.length v4c) : CV)] : List CV)),v8a,v8c),⟨hlt,pl_snoc HL hx⟩⟩,en [2,3,0,4,5,6,7] <| (fB (fun _ _ _ _ h => hown_snoc (cs := L) (x := ((x,.slice v4a x.r.held.length v4c) : CV)) h)).trans <| kF 3 0 [1,2,3,4],by show (fun (i : Nat) (L : List CV) (A : Option Addr) (cap : Nat) => t.conns.length - i) (i + 1) (L ++ ([((x,.slice v4a x.r.held.length v4c) : CV)] : List CV)) v8a v8c < t.conns.length - i; (dsimp only; omega)⟩
 have h3p := of_decide_eq_false h3
 have hge : i = t.conns.length := by simp at h3; omega
 refine c5 <| kQ <| ba [2] [(2,.p 1 0)] 1 ⟨27,bU { t with conns := L } (.slice A L.length cap) (.slice v2a t.waiting.length v2c)⟩ <| kR ?_
 have hmc : pl L = pl t.conns := by exact pl_take_all HL hge
 exact ⟨[.agg (bU { t with conns := L } (.slice A L.length cap) (.slice v2a t.waiting.length v2c)).toArray],by kernel_rfl,fun w' hb hf ha => by exact xo3 (⟨L,hmc⟩,(A,cap),(v2a,v2c)) rfl rfl (pW (hf _ m1) hB) (pH (hf _ m0) hB) (pW (hf _ m2) hB) (Apart.sub3 ha [1,0,2] rfl (by decide) rfl rfl rfl (by exact fun b h => h) (fun b h => el h) (by exact fun b h => h)) hb⟩
theorem ycloneTable_c (t : Tab) (t_connsV : Value) (t_waitingV : Value) (w : World) (hl_t_connsV : Sl w t_connsV 25 (t.conns.map ak)) (hh_t_connsV : ∀ x ∈ t.conns, Sl w x.2 2 (x.1.r.held.map pC)) (hl_t_waitingV : Sl w t_waitingV 3 (t.waiting.map a8)) (hfit : ∀ x ∈ t.conns, bO x.1) (hln : t.conns.length ≤ 1048576) (hlw : t.waiting.length ≤ 1048576) (B : Nat) (hB : B ≤ w.heap.size) : Calls Try.prog 11 #[.agg (bU t t_connsV t_waitingV).toArray] w fun e w' => XRs w w' e (α := {cs : List CV // pl cs = pl t.conns} × (Option Addr × Nat) × (Option Addr × Nat)) (fun y => .agg #[.slice y.2.1.1 y.1.1.length y.2.1.2, .slice y.2.2.1 t.waiting.length y.2.2.2]) (fun y => [a9 B 50 25 (.slice y.2.1.1 y.1.1.length y.2.1.2) (y.1.1.map ak), cd B y.1.1, a9 B 30 3 (.slice y.2.2.1 t.waiting.length y.2.2.2) (t.waiting.map a8)]) := by
 obtain ⟨Atc,Ctc,hvtc⟩ := hl_t_connsV.form
 rw [List.length_map] at hvtc; subst hvtc
 have hntc := hl_t_connsV.len; rw [List.length_map] at hntc
 have hqtc := Sl.capLe hl_t_connsV
 obtain ⟨Atw,Ctw,hvtw⟩ := hl_t_waitingV.form
 rw [List.length_map] at hvtw; subst hvtw
 have hntw := hl_t_waitingV.len; rw [List.length_map] at hntw
 have hqtw := Sl.capLe hl_t_waitingV
 refine bJ (args := [.agg (bU t (.slice Atc t.conns.length Ctc) (.slice Atw t.waiting.length Ctw)).toArray]) (fn := Try.f11) [bz (.slice Atc t.conns.length Ctc) 25 (t.conns.map ak),dV t.conns,bz (.slice Atw t.waiting.length Ctw) 3 (t.waiting.map a8)] Try.func11 rfl Try.ntmps11 rfl (by simp only [List.mem_cons,List.not_mem_nil,or_false,forall_eq_or_imp,forall_eq]; exact ⟨⟨rfl,hl_t_connsV⟩,⟨rfl,hh_t_connsV⟩,⟨rfl,hl_t_waitingV⟩⟩) ?_
 refine kQ <| cv [1,2] ⟨[(1,.p 0 0),(2,.p 1 0)],[⟨27,bU t (.slice Atc t.conns.length Ctc) (.slice Atw t.waiting.length Ctw)⟩,⟨27,[.slice none 0 0,.slice none 0 0]⟩],[],[bz (.slice Atc t.conns.length Ctc) 25 (t.conns.map ak),dV t.conns,bz (.slice Atw t.waiting.length Ctw) 3 (t.waiting.map a8)]⟩ <| kQ <| dZ 2 [1,2,7] [(7,.v (.slice Atw t.waiting.length Ctw))] 20 [.slice Atw t.waiting.length Ctw] (some 8) rfl (cm fun ww hw hf => yCloneTuple_c t.waiting (.slice Atw t.waiting.length Ctw) ww (hf _ m2) (by assumption) w.heap.size hw) ?_
 rintro ⟨v1a,v1c⟩
 refine fD 0 [1,2,8] [] (.agg (bU { t with conns := [] } (.slice none 0 0) (.slice v1a t.waiting.length v1c)).toArray) rfl (fun _ _ _ ww hr => aH [(1,.slice v1a t.waiting.length v1c)] hr.1 rfl (by kernel_rfl) (by kernel_rfl) ww) ?_
 refine kEA [1,2,3] [(3,.p 2 0)] [⟨27,bU { t with conns := [] } (.slice none 0 0) (.slice v1a t.waiting.length v1c)⟩] <| kS <| kQ <| aU [2,3,11,12,13] [(11,.v (.slice Atc t.conns.length Ctc)),(12,aI ((t.conns.length : Nat) : Int)),(13,aI 0)] ?_
 refine aj <| gh (a9 w.heap.size 50 25 (.slice none 0 0) []) (fun ww hww => nilF_p _ _ ww hww) (fun b => nilF_b _ _ _ b) <| gh (cd w.heap.size ([])) hownF_nilp (fun b => hownF_nob) <| bI (α := {x : Nat × List CV × Option Addr × Nat // (fun (i : Nat) (L : List CV) (A : Option Addr) (cap : Nat) => i ≤ t.conns.length ∧ pl L = (pl t.conns).take i) x.1 x.2.1 x.2.2.1 x.2.2.2}) (fun x => (fun (i : Nat) (L : List CV) (A : Option Addr) (cap : Nat) => (⟨[(2,.p 1 0),(3,.p 2 0),(11,.v (.slice Atc t.conns.length Ctc)),(12,aI ((t.conns.length : Nat) : Int)),(13,aI (i : Int))],[⟨27,bU t (.slice Atc t.conns.length Ctc) (.slice Atw t.waiting.length Ctw)⟩,⟨27,[.slice none 0 0,.slice none 0 0]⟩,⟨27,bU { t with conns := L } (.slice A L.length cap) (.slice v1a t.waiting.length v1c)⟩],[],[cd w.heap.size L,a9 w.heap.size 50 25 (.slice A L.length cap) (L.map ak),a9 w.heap.size 30 3 (.slice v1a t.waiting.length v1c) (t.waiting.map a8),bz (.slice Atc t.conns.length Ctc) 25 (t.conns.map ak),dV t.conns,bz (.slice Atw t.waiting.length Ctw) 3 (t.waiting.map a8)]⟩ : St)) x.1.1 x.1.2.1 x.1.2.2.1 x.1.2.2.2) (fun x => (fun (i : Nat) (L : List CV) (A : Option Addr) (cap : Nat) => t.conns.length - i) x.1.1 x.1.2.1 x.1.2.2.1 x.1.2.2.2) ⟨(0,([] : List CV),none,0),⟨Nat.zero_le _,rfl⟩⟩ (kF 3 0 [2,3,11,12,13]) ?_
 rintro ⟨⟨i,L,A,cap⟩,hi,HL⟩
 try dsimp only
 try dsimp only at hi HL
 refine kQ <| aU [2,3,11,12,13,14] [(14,aB (decide ((i : Int) < ((t.conns.length : Nat) : Int))))] <| kS <| kC (decide ((i : Int) < ((t.conns.length : Nat) : Int))) (fun h2 => ?_) (fun h2 => ?_)
 have h2p := of_decide_eq_true h2
 have hlt : i < t.conns.length := by simpa using h2
 obtain ⟨x0,hx⟩ : ∃ x,t.conns[i]? = some x := ⟨_,List.getElem?_eq_getElem hlt⟩
 obtain ⟨x,xa,xc,rfl⟩ := gi (hh_t_connsV x0 (List.mem_of_getElem? hx))
 have hft_x : bO x := hfit _ (List.mem_of_getElem? hx)
 obtain ⟨hfs_x,hfr_x,hfh_x,hfp_x⟩ := hft_x
 have hLl := pl_take_len HL hi
 refine kK <| kS <| aj <| kQ <| fe (kd := .i64) (T := 24) (e := 50) (K := 25) 0 [2,3,11,12,13] [] i [iI x.t.ip,iI x.t.port,iI x.t.my,iI x.state,iI x.s.una,.string x.s.data,iI x.s.sent,.bool x.s.fin,.bool x.s.finSent,.bool x.s.done,iI x.r.next,.string x.r.data,.slice xa x.r.held.length xc,iI x.r.fin,.bool x.r.done,iI x.window,iI x.most,iI x.o.mss,iI x.o.scale,.bool x.o.sack,.bool x.o.stamp,iI x.o.val,iI x.o.echo,iI x.timer,iI x.tries] (bz (.slice Atc t.conns.length Ctc) 25 (t.conns.map ak)) (by kernel_rfl) rfl (by kernel_rfl) rfl rfl (by kernel_rfl) (by kernel_rfl) (by kernel_rfl) (by kernel_rfl) hlt (by simp) (fun w h => h) (fun b h => h) (by simp only [List.getElem?_map,hx]; rfl) ?_
 refine kEA [2,3,5,11,12,13] [(5,.p 3 0)] [⟨50,a6 x (cS xa x xc)⟩] <| ef (α := Option Addr × Nat × Option Addr × Nat × Nat) (fun y => (fun (v3a : Option Addr) (v3c : Nat) (v7a : Option Addr) (v7c : Nat) (g5 : Nat) => (⟨[(2,.p 1 0),(3,.p 2 0),(11,.v (.slice Atc t.conns.length Ctc)),(12,aI ((t.conns.length : Nat) : Int)),(13,aI (i : Int))],[⟨27,bU t (.slice Atc t.conns.length Ctc) (.slice Atw t.waiting.length Ctw)⟩,⟨27,[.slice none 0 0,.slice none 0 0]⟩,⟨27,bU { t with conns := (L ++ ([((x,.slice v3a x.r.held.length v3c) : CV)] : List CV)) } (.slice v7a ((L ++ ([((x,.slice v3a x.r.held.length v3c) : CV)] : List CV)).length) v7c) (.slice v1a t.waiting.length v1c)⟩,⟨50,a6 x (cS xa x xc)⟩],[],[a9 w.heap.size 50 25 (.slice v7a ((L ++ ([((x,.slice v3a x.r.held.length v3c) : CV)] : List CV)).length) v7c) ((L ++ ([((x,.slice v3a x.r.held.length v3c) : CV)] : List CV)).map ak),a9 w.heap.size 50 25 (.slice (some ⟨g5,0,none⟩) 1 1) (([((x,.slice v3a x.r.held.length v3c) : CV)] : List CV).map ak),aC w.heap.size (cS v3a x v3c) 2 (x.r.held.map pC),cd w.heap.size L,a9 w.heap.size 30 3 (.slice v1a t.waiting.length v1c) (t.waiting.map a8),bz (.slice Atc t.conns.length Ctc) 25 (t.conns.map ak),dV t.conns,bz (.slice Atw t.waiting.length Ctw) 3 (t.waiting.map a8)]⟩ : St)) y.1 y.2.1 y.2.2.1 y.2.2.2.1 y.2.2.2.2) ?_ ?_
 refine bw [true,true,false,true] (by kernel_rfl) (fun ρ σ => ?_)
 refine d3 [0,2] [19,17,2,3,11,12,13] 6 [(19,.v (.agg (a6 x (cS xa x xc)).toArray)),(17,.p 2 0)] <| kA [1,3] ⟨?_,?_⟩
 refine e6 1 (.v (.slice A L.length cap)) rfl <| kA [3] <| d8 3 21 [.agg (a6 x (cS xa x xc)).toArray] (some 20) rfl (cm fun ww hw hf => ycloneConn_c x (cS xa x xc) ww ((hf _ m4) (x,.slice xa x.r.held.length xc) (List.mem_of_getElem? hx)) (by assumption) w.heap.size hw) ?_
 rintro ⟨v3a,v3c⟩
 refine kA [4] <| dG 4 rfl (a5 (a5 (aq rfl (a5 a7)))) (aQ (e := 50) (K := 25) (bytes := 208) [.agg (a6 x (cS v3a x v3c)).toArray] (rs := ([((x,.slice v3a x.r.held.length v3c) : CV)] : List CV).map ak) (by rfl) rfl) ?_
 intro g5
 refine kA [5] <| dG 5 rfl (a5 (a5 (aq rfl (a5 a7)))) (aG (e := 50) (K := 25) (bytes := 208) (i := 3) (q := (L ++ ([((x,.slice v3a x.r.held.length v3c) : CV)] : List CV)).length) (new := ([((x,.slice v3a x.r.held.length v3c) : CV)] : List CV).map ak) (rs' := (L ++ ([((x,.slice v3a x.r.held.length v3c) : CV)] : List CV)).map ak) rfl rfl rfl rfl (by kernel_rfl) (by kernel_rfl) (by kernel_rfl) rfl (by simp) (by rw [List.map_append]) (by simp) (fun ww hf => (au (hf (a9 w.heap.size 50 25 (.slice (some ⟨g5,0,none⟩) 1 1) (([((x,.slice v3a x.r.held.length v3c) : CV)] : List CV).map ak)) (by simp)))) (by intro r hr; simp only [List.map_cons,List.map_nil,List.mem_singleton] at hr; subst hr; exact ⟨rfl,by simp [ak,a6,Value.oneCell']⟩) (by (try simp only [List.length_map,List.length_append,List.length_cons,List.length_nil,List.length_take,List.length_drop,maxLen]); omega) (by (try simp only [List.length_map,List.length_append,List.length_cons,List.length_nil,List.length_take,List.length_drop,maxLen]); omega)) ?_
 rintro ⟨v7a,v7c⟩
 refine d3 [6] [23,22,2,3,11,12,13] 1 [(23,.p 2 0)] <| kA [7] <| dp 7 2 0 [.slice v7a ((L ++ ([((x,.slice v3a x.r.held.length v3c) : CV)] : List CV)).length) v7c] rfl <| kZ ?_
 exact ⟨(v3a,v3c,v7a,v7c,g5),kF 4 0 [2,3,11,12,13]⟩
 refine d8 3 21 [.agg (a6 x (cS xa x xc)).toArray] (some 20) rfl (cm fun ww hw hf => ycloneConn_c x (cS xa x xc) ww ((hf _ m4) (x,.slice xa x.r.held.length xc) (List.mem_of_getElem? hx)) (by assumption) w.heap.size hw) ?_
 rintro ⟨v8a,v8c⟩
 refine kA [1,4] ⟨?_,?_⟩
 refine e6 1 (.v (.slice A L.length cap)) rfl <| kA [4] <| dG 4 rfl (a5 (a5 (aq rfl (a5 a7)))) (aQ (e := 50) (K := 25) (bytes := 208) [.agg (a6 x (cS v8a x v8c)).toArray] (rs := ([((x,.slice v8a x.r.held.length v8c) : CV)] : List CV).map ak) (by rfl) rfl) ?_
 intro g11
 refine kA [5] <| dG 5 rfl (a5 (a5 (aq rfl (a5 a7)))) (aG (e := 50) (K := 25) (bytes := 208) (i := 3) (q := (L ++ ([((x,.slice v8a x.r.held.length v8c) : CV)] : List CV)).length) (new := ([((x,.slice v8a x.r.held.length v8c) : CV)] : List CV).map ak) (rs' := (L ++ ([((x,.slice v8a x.r.held.length v8c) : CV)] : List CV)).map ak) rfl rfl rfl rfl (by kernel_rfl) (by kernel_rfl) (by kernel_rfl) rfl (by simp) (by rw [List.map_append]) (by simp) (fun ww hf => (au (hf (a9 w.heap.size 50 25 (.slice (some ⟨g11,0,none⟩) 1 1) (([((x,.slice v8a x.r.held.length v8c) : CV)] : List CV).map ak)) (by simp)))) (by intro r hr; simp only [List.map_cons,List.map_nil,List.mem_singleton] at hr; subst hr; exact ⟨rfl,by simp [ak,a6,Value.oneCell']⟩) (by (try simp only [List.length_map,List.length_append,List.length_cons,List.length_nil,List.length_take,List.length_drop,maxLen]); omega) (by (try simp only [List.length_map,List.length_append,List.length_cons,List.length_nil,List.length_take,List.length_drop,maxLen]); omega)) ?_
 rintro ⟨v13a,v13c⟩
 refine d3 [6] [23,22,2,3,11,12,13] 1 [(23,.p 2 0)] <| kA [7] <| dp 7 2 0 [.slice v13a ((L ++ ([((x,.slice v8a x.r.held.length v8c) : CV)] : List CV)).length) v13c] rfl <| kZ ?_
 exact ⟨(v8a,v8c,v13a,v13c,g11),kF 4 0 [2,3,11,12,13]⟩
 refine dG 4 rfl (a5 (a5 (aq rfl (a5 a7)))) (aQ (e := 50) (K := 25) (bytes := 208) [.agg (a6 x (cS v8a x v8c)).toArray] (rs := ([((x,.slice v8a x.r.held.length v8c) : CV)] : List CV).map ak) (by rfl) rfl) ?_
 intro g14
 refine kA [1] <| e6 1 (.v (.slice A L.length cap)) rfl <| kA [5] <| dG 5 rfl (a5 (a5 (aq rfl (a5 a7)))) (aG (e := 50) (K := 25) (bytes := 208) (i := 3) (q := (L ++ ([((x,.slice v8a x.r.held.length v8c) : CV)] : List CV)).length) (new := ([((x,.slice v8a x.r.held.length v8c) : CV)] : List CV).map ak) (rs' := (L ++ ([((x,.slice v8a x.r.held.length v8c) : CV)] : List CV)).map ak) rfl rfl rfl rfl (by kernel_rfl) (by kernel_rfl) (by kernel_rfl) rfl (by simp) (by rw [List.map_append]) (by simp) (fun ww hf => (au (hf (a9 w.heap.size 50 25 (.slice (some ⟨g14,0,none⟩) 1 1) (([((x,.slice v8a x.r.held.length v8c) : CV)] : List CV).map ak)) (by simp)))) (by intro r hr; simp only [List.map_cons,List.map_nil,List.mem_singleton] at hr; subst hr; exact ⟨rfl,by simp [ak,a6,Value.oneCell']⟩) (by (try simp only [List.length_map,List.length_append,List.length_cons,List.length_nil,List.length_take,List.length_drop,maxLen]); omega) (by (try simp only [List.length_map,List.length_append,List.length_cons,List.length_nil,List.length_take,List.length_drop,maxLen]); omega)) ?_
 rintro ⟨v16a,v16c⟩
 refine d3 [6] [23,22,2,3,11,12,13] 1 [(23,.p 2 0)] <| kA [7] <| dp 7 2 0 [.slice v16a ((L ++ ([((x,.slice v8a x.r.held.length v8c) : CV)] : List CV)).length) v16c] rfl <| kZ ?_
 exact ⟨(v8a,v8c,v16a,v16c,g14),kF 4 0 [2,3,11,12,13]⟩
 rintro ⟨v3a,v3c,v7a,v7c,g5⟩
 refine kG <| kRF 2 [2,3,11,12,13] ⟨[(2,.p 1 0),(3,.p 2 0),(11,.v (.slice Atc t.conns.length Ctc)),(12,aI ((t.conns.length : Nat) : Int)),(13,aI (K6.wrap ((i : Int) + 1)))],[⟨27,bU t (.slice Atc t.conns.length Ctc) (.slice Atw t.waiting.length Ctw)⟩,⟨27,[.slice none 0 0,.slice none 0 0]⟩,⟨27,bU { t with conns := (L ++ ([((x,.slice v3a x.r.held.length v3c) : CV)] : List CV)) } (.slice v7a ((L ++ ([((x,.slice v3a x.r.held.length v3c) : CV)] : List CV)).length) v7c) (.slice v1a t.waiting.length v1c)⟩,⟨50,a6 x (cS xa x xc)⟩],[],[a9 w.heap.size 50 25 (.slice v7a ((L ++ ([((x,.slice v3a x.r.held.length v3c) : CV)] : List CV)).length) v7c) ((L ++ ([((x,.slice v3a x.r.held.length v3c) : CV)] : List CV)).map ak),a9 w.heap.size 50 25 (.slice (some ⟨g5,0,none⟩) 1 1) (([((x,.slice v3a x.r.held.length v3c) : CV)] : List CV).map ak),aC w.heap.size (cS v3a x v3c) 2 (x.r.held.map pC),cd w.heap.size L,a9 w.heap.size 30 3 (.slice v1a t.waiting.length v1c) (t.waiting.map a8),bz (.slice Atc t.conns.length Ctc) 25 (t.conns.map ak),dV t.conns,bz (.slice Atw t.waiting.length Ctw) 3 (t.waiting.map a8)]⟩ <| cJ [2,3,11,12,13] [(13,aI (K6.wrap ((i : Int) + 1)))] [(13,aI ((i : Int) + 1))] (by rw [show (K6.wrap ((i : Int) + 1)) = ((i : Int) + 1) from al (by omega) (by omega)]) (by kernel_rfl) ?_
 refine aU [2,3,11,12,13] [] ?_
 exact ⟨⟨(i + 1,(L ++ ([((x,.slice v3a x.r.held.length v3c) : CV)] : List CV)),v7a,v7c),⟨hlt,pl_snoc HL hx⟩⟩,en [2,3,0,4,5,6,7] <| (fB (fun _ _ _ _ h => hown_snoc (cs := L) (x := ((x,.slice v3a x.r.held.length v3c) : CV)) h)).trans <| kF 3 0 [2,3,11,12,13],by show (fun (i : Nat) (L : List CV) (A : Option Addr) (cap : Nat) => t.conns.length - i) (i + 1) (L ++ ([((x,.slice v3a x.r.held.length v3c) : CV)] : List CV)) v7a v7c < t.conns.length - i; (dsimp only; omega)⟩
 have h2p := of_decide_eq_false h2
 have hge : i = t.conns.length := by simp at h2; omega
 refine c5 <| kQ <| ba [2] [(2,.p 1 0)] 1 ⟨27,bU { t with conns := L } (.slice A L.length cap) (.slice v1a t.waiting.length v1c)⟩ <| kR ?_
 have hmc : pl L = pl t.conns := by exact pl_take_all HL hge
 exact ⟨[.agg (bU { t with conns := L } (.slice A L.length cap) (.slice v1a t.waiting.length v1c)).toArray],by kernel_rfl,fun w' hb hf ha => by exact xo3 (⟨L,hmc⟩,(A,cap),(v1a,v1c)) rfl rfl (pW (hf _ m1) hB) (pH (hf _ m0) hB) (pW (hf _ m2) hB) (Apart.sub3 ha [1,0,2] rfl (by decide) rfl rfl rfl (by exact fun b h => h) (fun b h => el h) (by exact fun b h => h)) hb⟩
theorem ysPutConn_c (t : Tab) (t_connsV : Value) (t_waitingV : Value) (c : Con) (rV : Value) (l : Lim) (w : World) (hl_t_connsV : Sl w t_connsV 25 (t.conns.map ak)) (hh_t_connsV : ∀ x ∈ t.conns, Sl w x.2 2 (x.1.r.held.map pC)) (hl_t_waitingV : Sl w t_waitingV 3 (t.waiting.map a8)) (hZ : Sl w rV 2 (c.r.held.map pC)) (hfit : ∀ x ∈ t.conns, bO x.1) (hln : t.conns.length ≤ 1048576) (hlw : t.waiting.length ≤ 1048576) (hfc : bO c) (B : Nat) (hB : B ≤ w.heap.size) : Calls Try.prog 25 #[.agg (bU t t_connsV t_waitingV).toArray, .agg (a6 c rV).toArray, .agg (bA l).toArray] w fun e w' => XRs w w' e (α := {cs : List CV // pl cs = putP t c l} × (Option Addr × Nat) × (Option Addr × Nat)) (fun y => .tuple #[.agg #[.slice y.2.1.1 y.1.1.length y.2.1.2, .slice y.2.2.1 ((fJ t c l).length) y.2.2.2], .bool (putOk t c l)]) (fun y => [a9 B 50 25 (.slice y.2.1.1 y.1.1.length y.2.1.2) (y.1.1.map ak), cd B y.1.1, a9 B 30 3 (.slice y.2.2.1 ((fJ t c l).length) y.2.2.2) ((fJ t c l).map a8)]) := by
 obtain ⟨Atc,Ctc,hvtc⟩ := hl_t_connsV.form
 rw [List.length_map] at hvtc; subst hvtc
 have hntc := hl_t_connsV.len; rw [List.length_map] at hntc
 have hqtc := Sl.capLe hl_t_connsV
 obtain ⟨Atw,Ctw,hvtw⟩ := hl_t_waitingV.form
 rw [List.length_map] at hvtw; subst hvtw
 have hntw := hl_t_waitingV.len; rw [List.length_map] at hntw
 have hqtw := Sl.capLe hl_t_waitingV
 obtain ⟨Z,Y,hY⟩ := hZ.form
 rw [List.length_map] at hY; subst hY
 have hJ := hZ.len; rw [List.length_map] at hJ
 have hqcrh := Sl.capLe hZ
 have hkc := hfc.2.2.1
 refine bJ (args := [.agg (bU t (.slice Atc t.conns.length Ctc) (.slice Atw t.waiting.length Ctw)).toArray,.agg (a6 c (cS Z c Y)).toArray,.agg (bA l).toArray]) (fn := Try.f25) [bz (.slice Atc t.conns.length Ctc) 25 (t.conns.map ak),dV t.conns,bz (.slice Atw t.waiting.length Ctw) 3 (t.waiting.map a8),cH Z c Y] Try.func25 rfl Try.ntmps25 rfl (by simp only [List.mem_cons,List.not_mem_nil,or_false,forall_eq_or_imp,forall_eq]; exact ⟨⟨rfl,hl_t_connsV⟩,⟨rfl,hh_t_connsV⟩,⟨rfl,hl_t_waitingV⟩,⟨rfl,hZ⟩⟩) ?_
 refine kQ <| cv [3,4,5,6] ⟨[(3,.p 0 0),(4,.p 1 0),(5,.p 2 0),(6,.p 3 0)],[⟨27,bU t (.slice Atc t.conns.length Ctc) (.slice Atw t.waiting.length Ctw)⟩,⟨50,a6 c (cS Z c Y)⟩,⟨35,bA l⟩,⟨27,[.slice none 0 0,.slice none 0 0]⟩],[],[bz (.slice Atc t.conns.length Ctc) 25 (t.conns.map ak),dV t.conns,bz (.slice Atw t.waiting.length Ctw) 3 (t.waiting.map a8),cH Z c Y]⟩ <| kQ <| dZ 1 [3,4,5,6,9] [(9,.v (.agg (bU t (.slice Atc t.conns.length Ctc) (.slice Atw t.waiting.length Ctw)).toArray))] 12 [.agg (bU t (.slice Atc t.conns.length Ctc) (.slice Atw t.waiting.length Ctw)).toArray] (some 10) rfl (cm fun ww hw hf => yl25Copy_c t (.slice Atc t.conns.length Ctc) (.slice Atw t.waiting.length Ctw) ww (hf _ m0) (hf _ m1) (hf _ m2) (by first | assumption | (dsimp only; assumption)) (by first | assumption | omega | (dsimp only; omega)) (by first | assumption | omega | (dsimp only; omega)) w.heap.size hw) ?_
 rintro ⟨⟨t1l,ht1l⟩,⟨t1a,t1c⟩,⟨t1d,t1e⟩⟩
 dsimp only
 have hfit_t1l : ∀ x ∈ t1l,bO x.1 := gv ht1l (by assumption)
 have hlen_t1l := pl_len ht1l
 refine kEA [3,4,5,6,8] [(8,.p 4 0)] [⟨27,bU { t with conns := t1l } (.slice t1a t1l.length t1c) (.slice t1d t.waiting.length t1e)⟩] <| kS <| ef (α := Option Addr × Nat × Option Addr × Nat × Nat) (fun y => (fun (v2a : Option Addr) (v2c : Nat) (v6a : Option Addr) (v6c : Nat) (g4 : Nat) => (⟨[(3,.p 0 0),(4,.p 1 0),(5,.p 2 0),(6,.p 3 0),(8,.p 4 0)],[⟨27,bU t (.slice Atc t.conns.length Ctc) (.slice Atw t.waiting.length Ctw)⟩,⟨50,a6 c (cS Z c Y)⟩,⟨35,bA l⟩,⟨27,[.slice none 0 0,.slice none 0 0]⟩,⟨27,bU { t with conns := (t1l ++ ([((c,.slice v2a c.r.held.length v2c) : CV)] : List CV)) } (.slice v6a ((t1l ++ ([((c,.slice v2a c.r.held.length v2c) : CV)] : List CV)).length) v6c) (.slice t1d t.waiting.length t1e)⟩],[],[a9 w.heap.size 50 25 (.slice v6a ((t1l ++ ([((c,.slice v2a c.r.held.length v2c) : CV)] : List CV)).length) v6c) ((t1l ++ ([((c,.slice v2a c.r.held.length v2c) : CV)] : List CV)).map ak),a9 w.heap.size 50 25 (.slice (some ⟨g4,0,none⟩) 1 1) (([((c,.slice v2a c.r.held.length v2c) : CV)] : List CV).map ak),aC w.heap.size (cS v2a c v2c) 2 (c.r.held.map pC),cd w.heap.size t1l,a9 w.heap.size 30 3 (.slice t1d t.waiting.length t1e) (t.waiting.map a8),bz (.slice Atc t.conns.length Ctc) 25 (t.conns.map ak),dV t.conns,bz (.slice Atw t.waiting.length Ctw) 3 (t.waiting.map a8),cH Z c Y]⟩ : St)) y.1 y.2.1 y.2.2.1 y.2.2.2.1 y.2.2.2.2) ?_ ?_
 refine bw [true,true,true,true,false] (by kernel_rfl) (fun ρ σ => ?_)
 refine d3 [0,2] [13,11,3,4,5,6,8] 6 [(13,.v (.agg (a6 c (cS Z c Y)).toArray)),(11,.p 4 0)] <| kA [1,3] ⟨?_,?_⟩
 refine e6 1 (.v (.slice t1a t1l.length t1c)) rfl <| kA [3] <| d8 3 22 [.agg (a6 c (cS Z c Y)).toArray] (some 14) rfl (cm fun ww hw hf => cV c (cS Z c Y) ww (hf _ m6) (by assumption) w.heap.size hw) ?_
 rintro ⟨v2a,v2c⟩
 refine kA [4] <| dG 4 rfl (a5 (a5 (a5 (a5 (aq rfl a7))))) (aQ (e := 50) (K := 25) (bytes := 208) [.agg (a6 c (cS v2a c v2c)).toArray] (rs := ([((c,.slice v2a c.r.held.length v2c) : CV)] : List CV).map ak) (by rfl) rfl) ?_
 intro g4
 refine kA [5] <| dG 5 rfl (a5 (a5 (a5 (a5 (aq rfl a7))))) (aG (e := 50) (K := 25) (bytes := 208) (i := 2) (q := (t1l ++ ([((c,.slice v2a c.r.held.length v2c) : CV)] : List CV)).length) (new := ([((c,.slice v2a c.r.held.length v2c) : CV)] : List CV).map ak) (rs' := (t1l ++ ([((c,.slice v2a c.r.held.length v2c) : CV)] : List CV)).map ak) rfl rfl rfl rfl (by kernel_rfl) (by kernel_rfl) (by kernel_rfl) rfl (by simp) (by rw [List.map_append]) (by simp) (fun ww hf => (au (hf (a9 w.heap.size 50 25 (.slice (some ⟨g4,0,none⟩) 1 1) (([((c,.slice v2a c.r.held.length v2c) : CV)] : List CV).map ak)) (by simp)))) (by intro r hr; simp only [List.map_cons,List.map_nil,List.mem_singleton] at hr; subst hr; exact ⟨rfl,by simp [ak,a6,Value.oneCell']⟩) (by (try simp only [List.length_map,List.length_append,List.length_cons,List.length_nil,List.length_take,List.length_drop,maxLen]); omega) (by (try simp only [List.length_map,List.length_append,List.length_cons,List.length_nil,List.length_take,List.length_drop,maxLen]); omega)) ?_
 rintro ⟨v6a,v6c⟩
 refine d3 [6] [17,16,3,4,5,6,8] 1 [(17,.p 4 0)] <| kA [7] <| dp 7 4 0 [.slice v6a ((t1l ++ ([((c,.slice v2a c.r.held.length v2c) : CV)] : List CV)).length) v6c] rfl <| kZ ?_
 exact ⟨(v2a,v2c,v6a,v6c,g4),kF 5 0 [3,4,5,6,8]⟩
 refine d8 3 22 [.agg (a6 c (cS Z c Y)).toArray] (some 14) rfl (cm fun ww hw hf => cV c (cS Z c Y) ww (hf _ m6) (by assumption) w.heap.size hw) ?_
 rintro ⟨v7a,v7c⟩
 refine kA [1,4] ⟨?_,?_⟩
 refine e6 1 (.v (.slice t1a t1l.length t1c)) rfl <| kA [4] <| dG 4 rfl (a5 (a5 (a5 (a5 (aq rfl a7))))) (aQ (e := 50) (K := 25) (bytes := 208) [.agg (a6 c (cS v7a c v7c)).toArray] (rs := ([((c,.slice v7a c.r.held.length v7c) : CV)] : List CV).map ak) (by rfl) rfl) ?_
 intro g10
 refine kA [5] <| dG 5 rfl (a5 (a5 (a5 (a5 (aq rfl a7))))) (aG (e := 50) (K := 25) (bytes := 208) (i := 2) (q := (t1l ++ ([((c,.slice v7a c.r.held.length v7c) : CV)] : List CV)).length) (new := ([((c,.slice v7a c.r.held.length v7c) : CV)] : List CV).map ak) (rs' := (t1l ++ ([((c,.slice v7a c.r.held.length v7c) : CV)] : List CV)).map ak) rfl rfl rfl rfl (by kernel_rfl) (by kernel_rfl) (by kernel_rfl) rfl (by simp) (by rw [List.map_append]) (by simp) (fun ww hf => (au (hf (a9 w.heap.size 50 25 (.slice (some ⟨g10,0,none⟩) 1 1) (([((c,.slice v7a c.r.held.length v7c) : CV)] : List CV).map ak)) (by simp)))) (by intro r hr; simp only [List.map_cons,List.map_nil,List.mem_singleton] at hr; subst hr; exact ⟨rfl,by simp [ak,a6,Value.oneCell']⟩) (by (try simp only [List.length_map,List.length_append,List.length_cons,List.length_nil,List.length_take,List.length_drop,maxLen]); omega) (by (try simp only [List.length_map,List.length_append,List.length_cons,List.length_nil,List.length_take,List.length_drop,maxLen]); omega)) ?_
 rintro ⟨v12a,v12c⟩
 refine d3 [6] [17,16,3,4,5,6,8] 1 [(17,.p 4 0)] <| kA [7] <| dp 7 4 0 [.slice v12a ((t1l ++ ([((c,.slice v7a c.r.held.length v7c) : CV)] : List CV)).length) v12c] rfl <| kZ ?_
 exact ⟨(v7a,v7c,v12a,v12c,g10),kF 5 0 [3,4,5,6,8]⟩
 refine dG 4 rfl (a5 (a5 (a5 (a5 (aq rfl a7))))) (aQ (e := 50) (K := 25) (bytes := 208) [.agg (a6 c (cS v7a c v7c)).toArray] (rs := ([((c,.slice v7a c.r.held.length v7c) : CV)] : List CV).map ak) (by rfl) rfl) ?_
 intro g13
 refine kA [1] <| e6 1 (.v (.slice t1a t1l.length t1c)) rfl <| kA [5] <| dG 5 rfl (a5 (a5 (a5 (a5 (aq rfl a7))))) (aG (e := 50) (K := 25) (bytes := 208) (i := 2) (q := (t1l ++ ([((c,.slice v7a c.r.held.length v7c) : CV)] : List CV)).length) (new := ([((c,.slice v7a c.r.held.length v7c) : CV)] : List CV).map ak) (rs' := (t1l ++ ([((c,.slice v7a c.r.held.length v7c) : CV)] : List CV)).map ak) rfl rfl rfl rfl (by kernel_rfl) (by kernel_rfl) (by kernel_rfl) rfl (by simp) (by rw [List.map_append]) (by simp) (fun ww hf => (au (hf (a9 w.heap.size 50 25 (.slice (some ⟨g13,0,none⟩) 1 1) (([((c,.slice v7a c.r.held.length v7c) : CV)] : List CV).map ak)) (by simp)))) (by intro r hr; simp only [List.map_cons,List.map_nil,List.mem_singleton] at hr; subst hr; exact ⟨rfl,by simp [ak,a6,Value.oneCell']⟩) (by (try simp only [List.length_map,List.length_append,List.length_cons,List.length_nil,List.length_take,List.length_drop,maxLen]); omega) (by (try simp only [List.length_map,List.length_append,List.length_cons,List.length_nil,List.length_take,List.length_drop,maxLen]); omega)) ?_
 rintro ⟨v15a,v15c⟩
 refine d3 [6] [17,16,3,4,5,6,8] 1 [(17,.p 4 0)] <| kA [7] <| dp 7 4 0 [.slice v15a ((t1l ++ ([((c,.slice v7a c.r.held.length v7c) : CV)] : List CV)).length) v15c] rfl <| kZ ?_
 exact ⟨(v7a,v7c,v15a,v15c,g13),kF 5 0 [3,4,5,6,8]⟩
 rintro ⟨v2a,v2c,v6a,v6c,g4⟩
 refine kQ <| xl_hv 4 [3,5,6,8,19,21] ⟨[(3,.p 0 0),(5,.p 2 0),(6,.p 3 0),(8,.p 4 0),(19,.v (.slice t1d t.waiting.length t1e)),(21,.v (.agg (bV c.t).toArray))],[⟨27,bU t (.slice Atc t.conns.length Ctc) (.slice Atw t.waiting.length Ctw)⟩,⟨50,a6 c (cS Z c Y)⟩,⟨35,bA l⟩,⟨27,[.slice none 0 0,.slice none 0 0]⟩,⟨27,bU { t with conns := (t1l ++ ([((c,.slice v2a c.r.held.length v2c) : CV)] : List CV)) } (.slice v6a ((t1l ++ ([((c,.slice v2a c.r.held.length v2c) : CV)] : List CV)).length) v6c) (.slice t1d t.waiting.length t1e)⟩],[],[a9 w.heap.size 50 25 (.slice v6a ((t1l ++ ([((c,.slice v2a c.r.held.length v2c) : CV)] : List CV)).length) v6c) ((t1l ++ ([((c,.slice v2a c.r.held.length v2c) : CV)] : List CV)).map ak),a9 w.heap.size 50 25 (.slice (some ⟨g4,0,none⟩) 1 1) (([((c,.slice v2a c.r.held.length v2c) : CV)] : List CV).map ak),aC w.heap.size (cS v2a c v2c) 2 (c.r.held.map pC),cd w.heap.size t1l,a9 w.heap.size 30 3 (.slice t1d t.waiting.length t1e) (t.waiting.map a8),bz (.slice Atc t.conns.length Ctc) 25 (t.conns.map ak),dV t.conns,bz (.slice Atw t.waiting.length Ctw) 3 (t.waiting.map a8),cH Z c Y]⟩ (by kernel_rfl) rfl (by kernel_rfl) rfl (by kernel_rfl) (aQ (e := 30) (K := 3) (bytes := 24) [.agg (bV c.t).toArray] (rs := ([c.t] : List Tup).map a8) rfl rfl) ?_
 intro g16
 refine kHD 0 [3,5,6,8,19,22] [] rfl (aG (e := 30) (K := 3) (bytes := 24) (i := 5) (q := (t.waiting ++ ([c.t] : List Tup)).length) (new := ([c.t] : List Tup).map a8) (rs' := (t.waiting ++ ([c.t] : List Tup)).map a8) rfl rfl rfl rfl (by kernel_rfl) (by kernel_rfl) (by kernel_rfl) rfl (by simp) (by rw [List.map_append]) (by simp) (fun ww hf => (au (hf (a9 w.heap.size 30 3 (.slice (some ⟨g16,0,none⟩) 1 1) (([c.t] : List Tup).map a8)) (by simp)))) (by intro r hr; obtain ⟨x,hx,rfl⟩ := List.mem_map.1 hr; exact ⟨rfl,by simp [a8,Value.oneCell']⟩) (by (try simp only [List.length_map,List.length_append,List.length_cons,List.length_nil,List.length_take,List.length_drop,maxLen]); omega) (by (try simp only [List.length_map,List.length_append,List.length_cons,List.length_nil,List.length_take,List.length_drop,maxLen]); omega)) ?_
 rintro ⟨v17a,v17c⟩
 refine ba [3,5,6,8] [] 4 ⟨27,[.slice v6a ((t1l ++ ([((c,.slice v2a c.r.held.length v2c) : CV)] : List CV)).length) v6c,.slice v17a ((t.waiting ++ ([c.t] : List Tup)).length) v17c]⟩ <| kS <| kS <| xw_wk ((gl [4,5,0,1,2,3,6,7,8,9] [aC w.heap.size (cS v2a c v2c) 2 (c.r.held.map pC),cd w.heap.size t1l,a9 w.heap.size 30 3 (.slice v17a ((t.waiting ++ ([c.t] : List Tup)).length) v17c) ((t.waiting ++ ([c.t] : List Tup)).map a8),a9 w.heap.size 30 3 (.slice (some ⟨g16,0,none⟩) 1 1) (([c.t] : List Tup).map a8),a9 w.heap.size 50 25 (.slice v6a ((t1l ++ ([((c,.slice v2a c.r.held.length v2c) : CV)] : List CV)).length) v6c) ((t1l ++ ([((c,.slice v2a c.r.held.length v2c) : CV)] : List CV)).map ak),a9 w.heap.size 50 25 (.slice (some ⟨g4,0,none⟩) 1 1) (([((c,.slice v2a c.r.held.length v2c) : CV)] : List CV).map ak),bz (.slice Atc t.conns.length Ctc) 25 (t.conns.map ak),dV t.conns,bz (.slice Atw t.waiting.length Ctw) 3 (t.waiting.map a8),cH Z c Y] (by kernel_rfl) (by kernel_rfl)).trans (fB (fun _ _ _ _ h => hown_snoc (cs := t1l) (x := ((c,.slice v2a c.r.held.length v2c) : CV)) h))) ?_
 have hfn := fit_snoc (L := t1l) (c := c) (v := .slice v2a c.r.held.length v2c) hfit_t1l hfc
 have hpo := put_ok (t := t) (c := c) (l := l) (L := t1l) (v := .slice v2a c.r.held.length v2c) (W := (t.waiting ++ ([c.t] : List Tup))) ht1l rfl
 refine kG <| kCF 2 [3,6,8,25,26] ⟨[(3,.p 0 0),(6,.p 3 0),(8,.p 4 0),(25,.v (.agg #[.slice v6a ((t1l ++ ([((c,.slice v2a c.r.held.length v2c) : CV)] : List CV)).length) v6c,.slice v17a ((t.waiting ++ ([c.t] : List Tup)).length) v17c])),(26,.v (.agg (bA l).toArray))],[⟨27,bU t (.slice Atc t.conns.length Ctc) (.slice Atw t.waiting.length Ctw)⟩,⟨50,a6 c (cS Z c Y)⟩,⟨35,bA l⟩,⟨27,[.slice none 0 0,.slice none 0 0]⟩,⟨27,[.slice v6a ((t1l ++ ([((c,.slice v2a c.r.held.length v2c) : CV)] : List CV)).length) v6c,.slice v17a ((t.waiting ++ ([c.t] : List Tup)).length) v17c]⟩],[],[cd w.heap.size (t1l ++ ([((c,.slice v2a c.r.held.length v2c) : CV)] : List CV)),a9 w.heap.size 30 3 (.slice v17a ((t.waiting ++ ([c.t] : List Tup)).length) v17c) ((t.waiting ++ ([c.t] : List Tup)).map a8),a9 w.heap.size 30 3 (.slice (some ⟨g16,0,none⟩) 1 1) (([c.t] : List Tup).map a8),a9 w.heap.size 50 25 (.slice v6a ((t1l ++ ([((c,.slice v2a c.r.held.length v2c) : CV)] : List CV)).length) v6c) ((t1l ++ ([((c,.slice v2a c.r.held.length v2c) : CV)] : List CV)).map ak),a9 w.heap.size 50 25 (.slice (some ⟨g4,0,none⟩) 1 1) (([((c,.slice v2a c.r.held.length v2c) : CV)] : List CV).map ak),bz (.slice Atc t.conns.length Ctc) 25 (t.conns.map ak),dV t.conns,bz (.slice Atw t.waiting.length Ctw) 3 (t.waiting.map a8),cH Z c Y]⟩ 45 [.agg #[.slice v6a ((t1l ++ ([((c,.slice v2a c.r.held.length v2c) : CV)] : List CV)).length) v6c,.slice v17a ((t.waiting ++ ([c.t] : List Tup)).length) v17c],.agg (bA l).toArray] (some 27) rfl (br fun ww hf => ysTableOk_c (⟨(t1l ++ ([((c,.slice v2a c.r.held.length v2c) : CV)] : List CV)),(t.waiting ++ ([c.t] : List Tup))⟩) (.slice v6a ((t1l ++ ([((c,.slice v2a c.r.held.length v2c) : CV)] : List CV)).length) v6c) (.slice v17a ((t.waiting ++ ([c.t] : List Tup)).length) v17c) l ww (au (hf _ m3)) (hownF_sl (hf _ m0)) (au (hf _ m1)) (by assumption)) ?_
 intro _
 refine aU [3,6,8,28] [(28,aB (!(bB (⟨(t1l ++ ([((c,.slice v2a c.r.held.length v2c) : CV)] : List CV)),(t.waiting ++ ([c.t] : List Tup))⟩) l)))] <| kC (!(bB (⟨(t1l ++ ([((c,.slice v2a c.r.held.length v2c) : CV)] : List CV)),(t.waiting ++ ([c.t] : List Tup))⟩) l)) (fun h18 => ?_) (fun h18 => ?_)
 have h18n := co h18
 have hpv : putOk t c l = false := hpo.symm.trans h18n
 refine kQ <| dZ 1 [6,29] [(29,.v (.agg (bU t (.slice Atc t.conns.length Ctc) (.slice Atw t.waiting.length Ctw)).toArray))] 12 [.agg (bU t (.slice Atc t.conns.length Ctc) (.slice Atw t.waiting.length Ctw)).toArray] (some 30) rfl (cm fun ww hw hf => yl25Copy_c t (.slice Atc t.conns.length Ctc) (.slice Atw t.waiting.length Ctw) ww (hf _ m5) (hf _ m6) (hf _ m7) (by first | assumption | (dsimp only; assumption)) (by first | assumption | omega | (dsimp only; omega)) (by first | assumption | omega | (dsimp only; omega)) w.heap.size hw) ?_
 rintro ⟨⟨t19l,ht19l⟩,⟨t19a,t19c⟩,⟨t19d,t19e⟩⟩
 dsimp only
 have hfit_t19l : ∀ x ∈ t19l,bO x.1 := gv ht19l (by assumption)
 have hlen_t19l := pl_len ht19l
 refine ba [6,7] [(7,aB false)] 3 ⟨27,bU { t with conns := t19l } (.slice t19a t19l.length t19c) (.slice t19d t.waiting.length t19e)⟩ <| kR ?_
 have hmc : pl t19l = putP t c l := by unfold putP; rw [hpv,if_neg (by decide),ht19l]
 have hmw : (fJ t c l) = t.waiting := by unfold fJ; rw [hpv]; rfl
 have hm0 : (putOk t c l) = false := by exact hpv
 exact ⟨[.agg (bU { t with conns := t19l } (.slice t19a t19l.length t19c) (.slice t19d t.waiting.length t19e)).toArray,.bool false],by kernel_rfl,fun w' hb hf ha => by rw [hmw,hm0]; exact xo3 (⟨t19l,hmc⟩,(t19a,t19c),(t19d,t19e)) rfl rfl (pW (hf _ m0) hB) (pH (hf _ m1) hB) (pW (hf _ m2) hB) (Apart.sub3 ha [0,1,2] rfl (by decide) rfl rfl rfl (by exact fun b h => h) (fun b h => el h) (by exact fun b h => h)) hb⟩
 have h18n := bj h18
 have hpv : putOk t c l = true := hpo.symm.trans h18n
 refine kK <| kQ <| ba [6,7] [(7,aB true)] 3 ⟨27,[.slice v6a ((t1l ++ ([((c,.slice v2a c.r.held.length v2c) : CV)] : List CV)).length) v6c,.slice v17a ((t.waiting ++ ([c.t] : List Tup)).length) v17c]⟩ <| kR ?_
 have hmc : pl (t1l ++ ([((c,.slice v2a c.r.held.length v2c) : CV)] : List CV)) = putP t c l := by unfold putP; rw [hpv,if_pos rfl,pl_snocc,ht1l]
 have hmw : (fJ t c l) = (t.waiting ++ ([c.t] : List Tup)) := by unfold fJ; rw [hpv]; rfl
 have hm0 : (putOk t c l) = true := by exact hpv
 exact ⟨[.agg #[.slice v6a ((t1l ++ ([((c,.slice v2a c.r.held.length v2c) : CV)] : List CV)).length) v6c,.slice v17a ((t.waiting ++ ([c.t] : List Tup)).length) v17c],.bool true],by kernel_rfl,fun w' hb hf ha => by rw [hmw,hm0]; exact xo3 (⟨(t1l ++ ([((c,.slice v2a c.r.held.length v2c) : CV)] : List CV)),hmc⟩,(v6a,v6c),(v17a,v17c)) rfl rfl (pW (hf _ m3) hB) (pH (hf _ m0) hB) (pW (hf _ m1) hB) (Apart.sub3 ha [3,0,1] rfl (by decide) rfl rfl rfl (by exact fun b h => h) (fun b h => el h) (by exact fun b h => h)) hb⟩
theorem ysTakeWaiting_c (t : Tab) (t_connsV : Value) (t_waitingV : Value) (w : World) (hl_t_connsV : Sl w t_connsV 25 (t.conns.map ak)) (hh_t_connsV : ∀ x ∈ t.conns, Sl w x.2 2 (x.1.r.held.map pC)) (hl_t_waitingV : Sl w t_waitingV 3 (t.waiting.map a8)) (hfit : ∀ x ∈ t.conns, bO x.1) (hln : t.conns.length ≤ 1048576) (hlw : t.waiting.length ≤ 1048576) (B : Nat) (hB : B ≤ w.heap.size) : Calls Try.prog 7 #[.agg (bU t t_connsV t_waitingV).toArray] w fun e w' => XRs w w' e (α := {cs : List CV // pl cs = pl t.conns} × (Option Addr × Nat) × (Option Addr × Nat)) (fun y => .tuple #[.agg #[.slice y.2.1.1 y.1.1.length y.2.1.2, .slice y.2.2.1 ((cq t).length) y.2.2.2], .agg (bV (t.waiting.headD ⟨0, 0, 0⟩)).toArray, .bool (!t.waiting.isEmpty)]) (fun y => [a9 B 50 25 (.slice y.2.1.1 y.1.1.length y.2.1.2) (y.1.1.map ak), cd B y.1.1, a9 B 30 3 (.slice y.2.2.1 ((cq t).length) y.2.2.2) ((cq t).map a8)]) := by
 obtain ⟨Atc,Ctc,hvtc⟩ := hl_t_connsV.form
 rw [List.length_map] at hvtc; subst hvtc
 have hntc := hl_t_connsV.len; rw [List.length_map] at hntc
 have hqtc := Sl.capLe hl_t_connsV
 obtain ⟨Atw,Ctw,hvtw⟩ := hl_t_waitingV.form
 rw [List.length_map] at hvtw; subst hvtw
 have hntw := hl_t_waitingV.len; rw [List.length_map] at hntw
 have hqtw := Sl.capLe hl_t_waitingV
 refine bJ (args := [.agg (bU t (.slice Atc t.conns.length Ctc) (.slice Atw t.waiting.length Ctw)).toArray]) (fn := Try.f7) [bz (.slice Atc t.conns.length Ctc) 25 (t.conns.map ak),dV t.conns,bz (.slice Atw t.waiting.length Ctw) 3 (t.waiting.map a8)] Try.func7 rfl Try.ntmps7 rfl (by simp only [List.mem_cons,List.not_mem_nil,or_false,forall_eq_or_imp,forall_eq]; exact ⟨⟨rfl,hl_t_connsV⟩,⟨rfl,hh_t_connsV⟩,⟨rfl,hl_t_waitingV⟩⟩) ?_
 refine kQ <| cv [1,2,3] ⟨[(1,.p 0 0),(2,.p 1 0),(3,.p 2 0)],[⟨27,bU t (.slice Atc t.conns.length Ctc) (.slice Atw t.waiting.length Ctw)⟩,⟨27,[.slice none 0 0,.slice none 0 0]⟩,⟨30,bV (⟨0,0,0⟩ : Tup)⟩],[],[bz (.slice Atc t.conns.length Ctc) 25 (t.conns.map ak),dV t.conns,bz (.slice Atw t.waiting.length Ctw) 3 (t.waiting.map a8)]⟩ <| kQ <| dZ 1 [1,2,3,6] [(6,.v (.agg (bU t (.slice Atc t.conns.length Ctc) (.slice Atw t.waiting.length Ctw)).toArray))] 12 [.agg (bU t (.slice Atc t.conns.length Ctc) (.slice Atw t.waiting.length Ctw)).toArray] (some 7) rfl (cm fun ww hw hf => yl25Copy_c t (.slice Atc t.conns.length Ctc) (.slice Atw t.waiting.length Ctw) ww (hf _ m0) (hf _ m1) (hf _ m2) (by first | assumption | (dsimp only; assumption)) (by first | assumption | omega | (dsimp only; omega)) (by first | assumption | omega | (dsimp only; omega)) w.heap.size hw) ?_
 rintro ⟨⟨t1l,ht1l⟩,⟨t1a,t1c⟩,⟨t1d,t1e⟩⟩
 dsimp only
 have hfit_t1l : ∀ x ∈ t1l,bO x.1 := gv ht1l (by assumption)
 have hlen_t1l := pl_len ht1l
 refine kEA [1,2,3,5] [(5,.p 3 0)] [⟨27,bU { t with conns := t1l } (.slice t1a t1l.length t1c) (.slice t1d t.waiting.length t1e)⟩] <| kS <| kQ <| aU [1,2,3,5,11] [(11,aB (((t.waiting.length : Nat) : Int) == 0))] ?_
 refine kC (((t.waiting.length : Nat) : Int) == 0) (fun h2 => ?_) (fun h2 => ?_)
 have h2p := cN h2
 have hnil : t.waiting = [] := List.eq_nil_of_length_eq_zero (by have := cN h2; omega)
 refine kQ <| fD 1 [2,3,12] [(12,.v (.agg (bU { t with conns := t1l } (.slice t1a t1l.length t1c) (.slice t1d t.waiting.length t1e)).toArray))] (.agg (bV (⟨0,0,0⟩ : Tup)).toArray) rfl (fun _ _ _ ww hr => aH [] hr.1 rfl (by kernel_rfl) (by kernel_rfl) ww) ?_
 refine ba [2,3,4] [(4,aB false)] 1 ⟨27,bU { t with conns := t1l } (.slice t1a t1l.length t1c) (.slice t1d t.waiting.length t1e)⟩ <| kR ?_
 have hmc : pl t1l = pl t.conns := by exact ht1l
 have hmw : (cq t) = t.waiting := by unfold cq; rw [hnil]; rfl
 have hm0 : (t.waiting.headD ⟨0,0,0⟩) = (⟨0,0,0⟩) := by first | (rw [hnil]; rfl) | (cases hw : t.waiting with | nil => rw [hw] at hx; cases hx | cons y r => rw [hw] at hx; simpa using hx)
 have hm1 : (!t.waiting.isEmpty) = false := by first | (rw [hnil]; rfl) | (cases hw : t.waiting with | nil => rw [hw] at hx; cases hx | cons y r => rfl)
 exact ⟨[.agg (bU { t with conns := t1l } (.slice t1a t1l.length t1c) (.slice t1d t.waiting.length t1e)).toArray,.agg (bV (⟨0,0,0⟩ : Tup)).toArray,.bool false],by kernel_rfl,fun w' hb hf ha => by rw [hmw,hm0,hm1]; exact xo3 (⟨t1l,hmc⟩,(t1a,t1c),(t1d,t1e)) rfl rfl (pW (hf _ m0) hB) (pH (hf _ m1) hB) (pW (hf _ m2) hB) (Apart.sub3 ha [0,1,2] rfl (by decide) rfl rfl rfl (by exact fun b h => h) (fun b h => el h) (by exact fun b h => h)) hb⟩
 have h2p := cI h2
 have hpos : 0 < t.waiting.length := by have := cI h2; omega
 obtain ⟨x,hx⟩ : ∃ x,t.waiting[0]? = some x := ⟨_,List.getElem?_eq_getElem hpos⟩
 have hwl := takeW_len t
 refine kK <| kQ <| kHD 0 [1,2,3,5] [] rfl (aQ (e := 30) (K := 3) (bytes := 24) [] (rs := ([] : List Tup).map a8) rfl rfl) ?_
 intro g3
 refine fD 2 [1,2,3,5,14,16] [(16,.v (.slice Atw t.waiting.length Ctw))] (.slice (if Ctw = 1 then Atw else Atw.map (·.add (1 * 3))) (t.waiting.length - 1) (Ctw - 1)) rfl (fun _ _ _ ww hr => act_slVe (e := 30) 1 hr.1 rfl (by kernel_rfl) (by kernel_rfl) rfl rfl rfl (by omega) ww) ?_
 refine kHD 0 [1,2,3,5,14,17] [] rfl (aG (e := 30) (K := 3) (bytes := 24) (i := 0) (q := ((t.waiting.drop 1).take (t.waiting.length - 1)).length) (new := ((t.waiting.drop 1).take (t.waiting.length - 1)).map a8) (rs' := ((t.waiting.drop 1).take (t.waiting.length - 1)).map a8) rfl rfl rfl rfl (by kernel_rfl) (by kernel_rfl) (by kernel_rfl) rfl (by first | (simp; done) | (simp; omega)) rfl (by first | (simp; done) | (simp; omega)) (fun ww hf => (Sl.partM (hf (bz (.slice Atw t.waiting.length Ctw) 3 (t.waiting.map a8)) (by simp)) 1 t.waiting.length (by omega) (by omega))) (by intro r hr; obtain ⟨x,hx,rfl⟩ := List.mem_map.1 hr; exact ⟨rfl,by simp [a8,Value.oneCell']⟩) (by (try simp only [List.length_map,List.length_append,List.length_cons,List.length_nil,List.length_take,List.length_drop,maxLen]); omega) (by (try simp only [List.length_map,List.length_append,List.length_cons,List.length_nil,List.length_take,List.length_drop,maxLen]); omega)) ?_
 rintro ⟨v4a,v4c⟩
 refine ba [1,2,3,5] [] 3 ⟨27,[.slice t1a t1l.length t1c,.slice v4a (((t.waiting.drop 1).take (t.waiting.length - 1)).length) v4c]⟩ <| kS <| d4 <| dm (K := 3) (j := 0) [iI x.ip,iI x.port,iI x.my] (bz (.slice Atw t.waiting.length Ctw) 3 (t.waiting.map a8)) (fun _ _ h => h) (by simp) (fun w h => h) (fun b h => h) (by simp only [List.getElem?_map,hx]; rfl) (fun bq5 offq5 hAq5 => ?_)
 refine cl [true,false,false,true] (by kernel_rfl) (fun ρ σ hq6 => ?_)
 refine d3 [0,1,2] [22,20,2,3] 5 [(22,.v (.slice Atw t.waiting.length Ctw)),(20,.v (.agg #[.slice t1a t1l.length t1c,.slice v4a (((t.waiting.drop 1).take (t.waiting.length - 1)).length) v4c]))] <| cO (kd := .i64) (T := 25) (e := 30) (K := 3) (j := 0) (A := Atw) (len := t.waiting.length) (cap := Ctw) 3 0 _ rfl (by kernel_rfl) (by kernel_rfl) (by kernel_rfl) (fun _ _ h => h) (by kernel_rfl) rfl rfl (by kernel_rfl) (by kernel_rfl) (by kernel_rfl) (by kernel_rfl) hpos hAq5 hq6.2 (by kernel_rfl) rfl ?_
 refine d3 [4] [24,20,2,3] 3 [(24,.v (.agg (bV x).toArray))] <| kA [5] <| dp 5 1 0 [.slice t1a t1l.length t1c,.slice v4a (((t.waiting.drop 1).take (t.waiting.length - 1)).length) v4c] rfl <| kA [6] ?_
 refine dp 6 2 0 (bV x) rfl <| d3 [7] [4,2,3] 0 [(4,aB true)] <| kZ <| kR ?_
 have hmc : pl t1l = pl t.conns := by exact ht1l
 have hmw : (cq t) = ((t.waiting.drop 1).take (t.waiting.length - 1)) := by unfold cq; rw [List.take_of_length_le (by simp)]
 have hm0 : (t.waiting.headD ⟨0,0,0⟩) = x := by first | (rw [hnil]; rfl) | (cases hw : t.waiting with | nil => rw [hw] at hx; cases hx | cons y r => rw [hw] at hx; simpa using hx)
 have hm1 : (!t.waiting.isEmpty) = true := by first | (rw [hnil]; rfl) | (cases hw : t.waiting with | nil => rw [hw] at hx; cases hx | cons y r => rfl)
 exact ⟨[.agg #[.slice t1a t1l.length t1c,.slice v4a (((t.waiting.drop 1).take (t.waiting.length - 1)).length) v4c],.agg (bV x).toArray,.bool true],by kernel_rfl,fun w' hb hf ha => by rw [hmw,hm0,hm1]; exact xo3 (⟨t1l,hmc⟩,(t1a,t1c),(v4a,v4c)) rfl rfl (pW (hf _ m1) hB) (pH (hf _ m2) hB) (pW (hf _ m0) hB) (Apart.sub3 ha [1,2,0] rfl (by decide) rfl rfl rfl (by exact fun b h => h) (fun b h => el h) (by exact fun b h => h)) hb⟩
theorem yiTakeWaiting_c (t : Tab) (t_connsV : Value) (t_waitingV : Value) (w : World) (hl_t_connsV : Sl w t_connsV 25 (t.conns.map ak)) (hh_t_connsV : ∀ x ∈ t.conns, Sl w x.2 2 (x.1.r.held.map pC)) (hl_t_waitingV : Sl w t_waitingV 3 (t.waiting.map a8)) (hfit : ∀ x ∈ t.conns, bO x.1) (hln : t.conns.length ≤ 1048576) (hlw : t.waiting.length ≤ 1048576) (B : Nat) (hB : B ≤ w.heap.size) : Calls Try.prog 6 #[.agg (bU t t_connsV t_waitingV).toArray] w fun e w' => XRs w w' e (α := {cs : List CV // pl cs = pl t.conns} × (Option Addr × Nat) × (Option Addr × Nat)) (fun y => .tuple #[.agg #[.slice y.2.1.1 y.1.1.length y.2.1.2, .slice y.2.2.1 ((cq t).length) y.2.2.2], .agg (bV (t.waiting.headD ⟨0, 0, 0⟩)).toArray, .bool (!t.waiting.isEmpty)]) (fun y => [a9 B 50 25 (.slice y.2.1.1 y.1.1.length y.2.1.2) (y.1.1.map ak), cd B y.1.1, aC B (.slice y.2.2.1 ((cq t).length) y.2.2.2) 3 ((cq t).map a8)]) := by
 obtain ⟨Atc,Ctc,hvtc⟩ := hl_t_connsV.form
 rw [List.length_map] at hvtc; subst hvtc
 have hntc := hl_t_connsV.len; rw [List.length_map] at hntc
 have hqtc := Sl.capLe hl_t_connsV
 obtain ⟨Atw,Ctw,hvtw⟩ := hl_t_waitingV.form
 rw [List.length_map] at hvtw; subst hvtw
 have hntw := hl_t_waitingV.len; rw [List.length_map] at hntw
 have hqtw := Sl.capLe hl_t_waitingV
 refine bJ (args := [.agg (bU t (.slice Atc t.conns.length Ctc) (.slice Atw t.waiting.length Ctw)).toArray]) (fn := Try.f6) [bz (.slice Atc t.conns.length Ctc) 25 (t.conns.map ak),dV t.conns,bz (.slice Atw t.waiting.length Ctw) 3 (t.waiting.map a8)] Try.func6 rfl Try.ntmps6 rfl (by simp only [List.mem_cons,List.not_mem_nil,or_false,forall_eq_or_imp,forall_eq]; exact ⟨⟨rfl,hl_t_connsV⟩,⟨rfl,hh_t_connsV⟩,⟨rfl,hl_t_waitingV⟩⟩) ?_
 refine kQ <| cv [1,2,3] ⟨[(1,.p 0 0),(2,.p 1 0),(3,.p 2 0)],[⟨27,bU t (.slice Atc t.conns.length Ctc) (.slice Atw t.waiting.length Ctw)⟩,⟨27,[.slice none 0 0,.slice none 0 0]⟩,⟨30,bV (⟨0,0,0⟩ : Tup)⟩],[],[bz (.slice Atc t.conns.length Ctc) 25 (t.conns.map ak),dV t.conns,bz (.slice Atw t.waiting.length Ctw) 3 (t.waiting.map a8)]⟩ <| kQ <| dZ 1 [1,2,3,6] [(6,.v (.agg (bU t (.slice Atc t.conns.length Ctc) (.slice Atw t.waiting.length Ctw)).toArray))] 11 [.agg (bU t (.slice Atc t.conns.length Ctc) (.slice Atw t.waiting.length Ctw)).toArray] (some 7) rfl (cm fun ww hw hf => ycloneTable_c t (.slice Atc t.conns.length Ctc) (.slice Atw t.waiting.length Ctw) ww (hf _ m0) (hf _ m1) (hf _ m2) (by first | assumption | (dsimp only; assumption)) (by first | assumption | omega | (dsimp only; omega)) (by first | assumption | omega | (dsimp only; omega)) w.heap.size hw) ?_
 rintro ⟨⟨t1l,ht1l⟩,⟨t1a,t1c⟩,⟨t1d,t1e⟩⟩
 dsimp only
 have hfit_t1l : ∀ x ∈ t1l,bO x.1 := gv ht1l (by assumption)
 have hlen_t1l := pl_len ht1l
 refine kEA [1,2,3,5] [(5,.p 3 0)] [⟨27,bU { t with conns := t1l } (.slice t1a t1l.length t1c) (.slice t1d t.waiting.length t1e)⟩] <| kS <| kQ <| aU [1,2,3,5,11] [(11,aB (((t.waiting.length : Nat) : Int) == 0))] ?_
 refine kC (((t.waiting.length : Nat) : Int) == 0) (fun h2 => ?_) (fun h2 => ?_)
 have h2p := cN h2
 have hnil : t.waiting = [] := List.eq_nil_of_length_eq_zero (by have := cN h2; omega)
 refine kQ <| fD 1 [2,3,12] [(12,.v (.agg (bU { t with conns := t1l } (.slice t1a t1l.length t1c) (.slice t1d t.waiting.length t1e)).toArray))] (.agg (bV (⟨0,0,0⟩ : Tup)).toArray) rfl (fun _ _ _ ww hr => aH [] hr.1 rfl (by kernel_rfl) (by kernel_rfl) ww) ?_
 refine ba [2,3,4] [(4,aB false)] 1 ⟨27,bU { t with conns := t1l } (.slice t1a t1l.length t1c) (.slice t1d t.waiting.length t1e)⟩ <| kR ?_
 have hmc : pl t1l = pl t.conns := by exact ht1l
 have hmw : (cq t) = t.waiting := by unfold cq; rw [hnil]; rfl
 have hm0 : (t.waiting.headD ⟨0,0,0⟩) = (⟨0,0,0⟩) := by first | (rw [hnil]; rfl) | (cases hw : t.waiting with | nil => rw [hw] at hx; cases hx | cons y r => rw [hw] at hx; simpa using hx)
 have hm1 : (!t.waiting.isEmpty) = false := by first | (rw [hnil]; rfl) | (cases hw : t.waiting with | nil => rw [hw] at hx; cases hx | cons y r => rfl)
 exact ⟨[.agg (bU { t with conns := t1l } (.slice t1a t1l.length t1c) (.slice t1d t.waiting.length t1e)).toArray,.agg (bV (⟨0,0,0⟩ : Tup)).toArray,.bool false],by kernel_rfl,fun w' hb hf ha => by rw [hmw,hm0,hm1]; exact xo3 (⟨t1l,hmc⟩,(t1a,t1c),(t1d,t1e)) rfl rfl (pW (hf _ m0) hB) (pH (hf _ m1) hB) (pR (hf _ m2) hB) (Apart.sub3 ha [0,1,2] rfl (by decide) rfl rfl rfl (by exact fun b h => h) (fun b h => el h) (fun b h => bl h)) hb⟩
 have h2p := cI h2
 have hpos : 0 < t.waiting.length := by have := cI h2; omega
 obtain ⟨x,hx⟩ : ∃ x,t.waiting[0]? = some x := ⟨_,List.getElem?_eq_getElem hpos⟩
 have hwl := takeW_len t
 refine kK <| kQ <| fD 2 [1,2,3,5,15] [(15,.v (.slice t1d t.waiting.length t1e))] (.slice (if t1e = 1 then t1d else t1d.map (·.add (1 * 3))) (t.waiting.length - 1) (t1e - 1)) rfl (fun _ _ _ ww hr => act_slVe (e := 30) 1 hr.1 rfl (by kernel_rfl) (by kernel_rfl) rfl rfl rfl (by omega) ww) ?_
 refine ba [1,2,3,5] [] 3 ⟨27,[.slice t1a t1l.length t1c,.slice (if t1e = 1 then t1d else t1d.map (·.add (1 * 3))) (t.waiting.length - 1) (t1e - 1)]⟩ <| kS <| d4 <| dm (K := 3) (j := 0) [iI x.ip,iI x.port,iI x.my] (bz (.slice Atw t.waiting.length Ctw) 3 (t.waiting.map a8)) (fun _ _ h => h) (by simp) (fun w h => h) (fun b h => h) (by simp only [List.getElem?_map,hx]; rfl) (fun bq3 offq3 hAq3 => ?_)
 refine cl [true,false,false,true] (by kernel_rfl) (fun ρ σ hq4 => ?_)
 refine d3 [0,1,2] [20,18,2,3] 5 [(20,.v (.slice Atw t.waiting.length Ctw)),(18,.v (.agg #[.slice t1a t1l.length t1c,.slice (if t1e = 1 then t1d else t1d.map (·.add (1 * 3))) (t.waiting.length - 1) (t1e - 1)]))] <| cO (kd := .i64) (T := 25) (e := 30) (K := 3) (j := 0) (A := Atw) (len := t.waiting.length) (cap := Ctw) 3 0 _ rfl (by kernel_rfl) (by kernel_rfl) (by kernel_rfl) (fun _ _ h => h) (by kernel_rfl) rfl rfl (by kernel_rfl) (by kernel_rfl) (by kernel_rfl) (by kernel_rfl) hpos hAq3 hq4.2 (by kernel_rfl) rfl ?_
 refine d3 [4] [22,18,2,3] 3 [(22,.v (.agg (bV x).toArray))] <| kA [5] <| dp 5 1 0 [.slice t1a t1l.length t1c,.slice (if t1e = 1 then t1d else t1d.map (·.add (1 * 3))) (t.waiting.length - 1) (t1e - 1)] rfl <| kA [6] ?_
 refine dp 6 2 0 (bV x) rfl <| d3 [7] [4,2,3] 0 [(4,aB true)] <| kZ <| xw_wk ((gl [2,0,1,3,4,5] [a9 w.heap.size 30 3 (.slice t1d t.waiting.length t1e) (t.waiting.map a8),a9 w.heap.size 50 25 (.slice t1a t1l.length t1c) (t1l.map ak),cd w.heap.size t1l,bz (.slice Atc t.conns.length Ctc) 25 (t.conns.map ak),dV t.conns,bz (.slice Atw t.waiting.length Ctw) 3 (t.waiting.map a8)] (by kernel_rfl) (by kernel_rfl)).trans (fB (fun _ _ _ _ h => tail_weak (W := t.waiting) rfl hpos h))) ?_
 refine xw_wk (wkf (s' := ⟨[(2,.p 1 0),(3,.p 2 0),(4,aB true)],[⟨27,bU t (.slice Atc t.conns.length Ctc) (.slice Atw t.waiting.length Ctw)⟩,⟨27,[.slice t1a t1l.length t1c,.slice (if t1e = 1 then t1d else t1d.map (·.add (1 * 3))) (t.waiting.length - 1) (t1e - 1)]⟩,⟨30,bV x⟩,⟨27,[.slice t1a t1l.length t1c,.slice (if t1e = 1 then t1d else t1d.map (·.add (1 * 3))) (t.waiting.length - 1) (t1e - 1)]⟩],[],[aC w.heap.size (.slice (if t1e = 1 then t1d else t1d.map (·.add (1 * 3))) (t.waiting.length - 1) (t1e - 1)) 3 ((cq t).map a8),a9 w.heap.size 50 25 (.slice t1a t1l.length t1c) (t1l.map ak),cd w.heap.size t1l,bz (.slice Atc t.conns.length Ctc) 25 (t.conns.map ak),dV t.conns,bz (.slice Atw t.waiting.length Ctw) 3 (t.waiting.map a8)]⟩) 4 0 [2,3,4] (by kernel_rfl)) ?_
 refine xw_eq (st' := ⟨[(2,.p 1 0),(3,.p 2 0),(4,aB true)],[⟨27,bU t (.slice Atc t.conns.length Ctc) (.slice Atw t.waiting.length Ctw)⟩,⟨27,[.slice t1a t1l.length t1c,.slice (if t1e = 1 then t1d else t1d.map (·.add (1 * 3))) ((cq t).length) (t1e - 1)]⟩,⟨30,bV x⟩,⟨27,[.slice t1a t1l.length t1c,.slice (if t1e = 1 then t1d else t1d.map (·.add (1 * 3))) ((cq t).length) (t1e - 1)]⟩],[],[aC w.heap.size (.slice (if t1e = 1 then t1d else t1d.map (·.add (1 * 3))) ((cq t).length) (t1e - 1)) 3 ((cq t).map a8),a9 w.heap.size 50 25 (.slice t1a t1l.length t1c) (t1l.map ak),cd w.heap.size t1l,bz (.slice Atc t.conns.length Ctc) 25 (t.conns.map ak),dV t.conns,bz (.slice Atw t.waiting.length Ctw) 3 (t.waiting.map a8)]⟩) (by rw [show (t.waiting.length - 1) = ((cq t).length) from hwl] <;> rfl) ?_
 refine kR ?_
 have hmc : pl t1l = pl t.conns := by exact ht1l
 have hm0 : (t.waiting.headD ⟨0,0,0⟩) = x := by first | (rw [hnil]; rfl) | (cases hw : t.waiting with | nil => rw [hw] at hx; cases hx | cons y r => rw [hw] at hx; simpa using hx)
 have hm1 : (!t.waiting.isEmpty) = true := by first | (rw [hnil]; rfl) | (cases hw : t.waiting with | nil => rw [hw] at hx; cases hx | cons y r => rfl)
 exact ⟨[.agg #[.slice t1a t1l.length t1c,.slice (if t1e = 1 then t1d else t1d.map (·.add (1 * 3))) ((cq t).length) (t1e - 1)],.agg (bV x).toArray,.bool true],by kernel_rfl,fun w' hb hf ha => by rw [hm0,hm1]; exact xo3 (⟨t1l,hmc⟩,(t1a,t1c),((if t1e = 1 then t1d else t1d.map (·.add (1 * 3))),(t1e - 1))) rfl rfl (pW (hf _ m1) hB) (pH (hf _ m2) hB) (pO (hf _ m0) hB) (Apart.sub3 ha [1,2,0] rfl (by decide) rfl rfl rfl (by exact fun b h => h) (fun b h => el h) (fun b h => h)) hb⟩
theorem yl18Free_c (l : List Int) (lV : Value) (m : Nat) (w : World) (hl_lV : Sl w lV 1 (l.map az)) (hm : m ≤ l.length) : Calls Try.prog 100 #[lV, iI (m : Int)] w fun e w' => e = .returned (.bool (da l m)) ∧ Below w.heap.size w w' := by
 obtain ⟨Al,Cl,hvl⟩ := hl_lV.form
 rw [List.length_map] at hvl; subst hvl
 have hnl := hl_lV.len; rw [List.length_map] at hnl
 have hql := Sl.capLe hl_lV
 refine cn (args := [.slice Al l.length Cl,iI (m : Int)]) (fn := Try.f100) [bz (.slice Al l.length Cl) 1 (l.map az)] Try.func100 rfl Try.ntmps100 rfl (by simp only [List.mem_cons,List.not_mem_nil,or_false,forall_eq_or_imp,forall_eq]; exact ⟨rfl,hl_lV⟩) ?_
 refine kQ <| cv [0,1] ⟨[(0,.v (.slice Al l.length Cl)),(1,aI (m : Int))],[],[],[bz (.slice Al l.length Cl) 1 (l.map az)]⟩ <| kS <| kQ <| aD [0,5] [(0,.v (.slice Al l.length Cl)),(5,aI (m : Int))] ?_
 refine aj <| bI (α := {x : Nat // (fun (k : Nat) => k ≤ l.length ∧ da l m = da l k) x}) (fun x => (fun (k : Nat) => (⟨[(0,.v (.slice Al l.length Cl)),(5,aI (k : Int))],[],[],[bz (.slice Al l.length Cl) 1 (l.map az)]⟩ : St)) x.1) (fun x => l.length - x.1) ⟨(m),⟨hm,rfl⟩⟩ (kF 0 0 [0,5]) ?_
 rintro ⟨k,hk,HK⟩
 try dsimp only
 try dsimp only at hk HK
 refine kS <| kQ <| aD [0,5,10] [(0,.v (.slice Al l.length Cl)),(5,aI (k : Int)),(10,aB (decide ((k : Int) < ((l.length : Nat) : Int))))] <| kC (decide ((k : Int) < ((l.length : Nat) : Int))) (fun h1 => ?_) (fun h1 => ?_)
 have h1p := of_decide_eq_true h1
 have hlt : k < l.length := by simpa using h1
 obtain ⟨x,hx⟩ : ∃ x,l[k]? = some x := ⟨_,List.getElem?_eq_getElem hlt⟩
 have hfs := freeFrom_step hx
 refine kK <| kS <| aj <| kQ <| xl_indexS (kd := .i64) (T := 57) (e := 3) (K := 1) 2 [0,5,13,14] [(0,.v (.slice Al l.length Cl)),(5,aI (k : Int)),(13,.v (.slice Al l.length Cl)),(14,aI (k : Int))] k [iI x] (bz (.slice Al l.length Cl) 1 (l.map az)) (by kernel_rfl) rfl (by kernel_rfl) rfl rfl (by kernel_rfl) (by kernel_rfl) (by kernel_rfl) (by kernel_rfl) hlt (by simp) (fun w h => h) (fun b h => h) (by simp only [List.getElem?_map,hx]; rfl) ?_
 refine aD [0,5,17] [(0,.v (.slice Al l.length Cl)),(5,aI (k : Int)),(17,aB (decide (x ≥ 0)))] <| kC (decide (x ≥ 0)) (fun h2 => ?_) (fun h2 => ?_)
 have h2p := of_decide_eq_true h2
 refine kQ <| aD [4] [(4,aB false)] <| kR ?_
 have hmod : da l m = false := by first | (rw [HK]; exact hfe) | (rw [HK,hfs]; simp; omega) | (rw [HK,hfs]; simp [*])
 exact ⟨[.bool false],by kernel_rfl,fun w' hb hf => by rw [hmod]; exact ⟨rfl,hb⟩⟩
 have h2p := of_decide_eq_false h2
 refine kK <| kG <| eo 3 [0,5] [(0,.v (.slice Al l.length Cl)),(5,aI (K6.wrap ((k : Int) + 1)))] <| gd (t' := [(0,.v (.slice Al l.length Cl)),(5,aI ((k : Int) + 1))]) (by rw [show (K6.wrap ((k : Int) + 1)) = ((k : Int) + 1) from al (by omega) (by omega)]) ?_
 refine aD [0,5] [(0,.v (.slice Al l.length Cl)),(5,aI ((k : Int) + 1))] ?_
 exact ⟨⟨(k + 1),⟨by omega,by rw [HK,hfs]; simp; omega⟩⟩,kF 0 0 [0,5],by show l.length - (k + 1) < l.length - k; omega⟩
 have h1p := of_decide_eq_false h1
 have hge : k = l.length := by simp at h1; omega
 have hfe := freeFrom_end l
 subst hge
 refine c5 <| kQ <| aD [4] [(4,aB true)] <| kR ?_
 have hmod : da l m = true := by first | (rw [HK]; exact hfe) | (rw [HK,hfs]; simp; omega) | (rw [HK,hfs]; simp [*])
 exact ⟨[.bool true],by kernel_rfl,fun w' hb hf => by rw [hmod]; exact ⟨rfl,hb⟩⟩
theorem yl18Slots_c (r : Rcv) (r_heldV : Value) (w : World) (hl_r_heldV : Sl w r_heldV 2 (r.held.map pC)) (hkn : r.held.length ≤ 1048576) (hheld : ∀ p ∈ r.held, 0 < p.off ∧ p.off + (p.text.size : Int) ≤ 32) (B : Nat) (hB : B ≤ w.heap.size) : Calls Try.prog 99 #[.agg (ab r r_heldV).toArray] w fun e w' => XRs w w' e (α := Option Addr × Nat) (fun y => .slice y.1 ((aa r).length) y.2) (fun y => [a9 B 3 1 (.slice y.1 ((aa r).length) y.2) ((aa r).map az)]) := by
 obtain ⟨Arh,Crh,hvrh⟩ := hl_r_heldV.form
 rw [List.length_map] at hvrh; subst hvrh
 have hnrh := hl_r_heldV.len; rw [List.length_map] at hnrh
 have hqrh := Sl.capLe hl_r_heldV
 refine bJ (args := [.agg (ab r (.slice Arh r.held.length Crh)).toArray]) (fn := Try.f99) [bz (.slice Arh r.held.length Crh) 2 (r.held.map pC)] Try.func99 rfl Try.ntmps99 rfl (by simp only [List.mem_cons,List.not_mem_nil,or_false,forall_eq_or_imp,forall_eq]; exact ⟨rfl,hl_r_heldV⟩) ?_
 refine kQ <| cv [1] ⟨[(1,.p 0 0)],[⟨46,ab r (.slice Arh r.held.length Crh)⟩],[],[bz (.slice Arh r.held.length Crh) 2 (r.held.map pC)]⟩ <| kQ <| kHS 0 [1] [(1,.p 0 0)] rfl (hv_make (kl := .i64) (kc := .i64) (e := 3) (K := 1) (bytes := 8) (m := 33) (z := iI 0) (rs := (List.replicate 33 0).map az) rfl (by kernel_rfl) (by kernel_rfl) (by kernel_rfl) (by kernel_rfl) (by (try simp only [List.length_map,List.length_append,List.length_cons,List.length_nil,List.length_take,List.length_drop,maxLen]); omega) (by (try simp only [List.length_map,List.length_append,List.length_cons,List.length_nil,List.length_take,List.length_drop,maxLen]); omega) (by rw [List.map_replicate]; rfl)) ?_
 intro g1
 refine aU [1,3] [(3,.v (.slice (some ⟨g1,0,none⟩) 33 33))] <| kS <| kQ <| aU [1,3,4] [(4,aI 0)] ?_
 refine aj <| bI (α := {x : Nat × List Int // (fun (k : Nat) (l : List Int) => k ≤ 33 ∧ l.length = 33 ∧ l.take k = List.replicate k (-1)) x.1 x.2}) (fun x => (fun (k : Nat) (l : List Int) => (⟨[(1,.p 0 0),(3,.v (.slice (some ⟨g1,0,none⟩) 33 33)),(4,aI (k : Int))],[⟨46,ab r (.slice Arh r.held.length Crh)⟩],[],[a9 w.heap.size 3 1 (.slice (some ⟨g1,0,none⟩) 33 33) (l.map az),bz (.slice Arh r.held.length Crh) 2 (r.held.map pC)]⟩ : St)) x.1.1 x.1.2) (fun x => (fun (k : Nat) (l : List Int) => 33 - k) x.1.1 x.1.2) ⟨(0,(List.replicate 33 0)),⟨Nat.zero_le _,by simp,rfl⟩⟩ (en [0,1] <| kF 1 0 [1,3,4]) ?_
 rintro ⟨⟨k,l⟩,hk,hl,HK⟩
 try dsimp only
 try dsimp only at hk hl HK
 refine kS <| kQ <| aU [1,3,4,11] [(11,aB (decide ((k : Int) < 33)))] <| kC (decide ((k : Int) < 33)) (fun h2 => ?_) (fun h2 => ?_)
 have h2p := of_decide_eq_true h2
 have hlt : k < 33 := by simp at h2; omega
 obtain ⟨x0,hx0⟩ : ∃ x,l[k]? = some x := ⟨_,List.getElem?_eq_getElem (by omega)⟩
 refine kK <| kS <| aj <| kG <| fD 2 [1,3,4,14,15] [(14,.v (.slice (some ⟨g1,0,none⟩) 33 33)),(15,aI (k : Int))] (.pointer (some ⟨g1,k * 1,none⟩)) rfl (fun _ _ _ ww hr => e9 (kd := .i64) (T := 57) (e := 3) (K := 1) (g := g1) (N := 33) (cap := 33) k rfl hr.1 rfl rfl (by kernel_rfl) (by kernel_rfl) (by kernel_rfl) hlt ww) ?_
 refine xl_hs 0 [1,3,4,16] ⟨[(1,.p 0 0),(3,.v (.slice (some ⟨g1,0,none⟩) 33 33)),(4,aI (k : Int)),(16,.v (.pointer (some ⟨g1,k * 1,none⟩)))],[⟨46,ab r (.slice Arh r.held.length Crh)⟩],[],[a9 w.heap.size 3 1 (.slice (some ⟨g1,0,none⟩) 33 33) (l.map az),bz (.slice Arh r.held.length Crh) 2 (r.held.map pC)]⟩ (by kernel_rfl) rfl (by kernel_rfl) rfl (by kernel_rfl) (HSg.hs (hs_stR (g := g1) (B := w.heap.size) (e := 3) (K := 1) (N := 33) (cap := 33) (rs := (l.map az)) (rs' := (l.set k (-1)).map az) (v := (iI (-1))) (i := 0) (off := k * 1) k 0 [iI x0] (row' := [iI (-1)]) rfl rfl (by kernel_rfl) rfl (by kernel_rfl) (by kernel_rfl) (by kernel_rfl) (by kernel_rfl) (Nat.le_refl _) (by simp only [List.getElem?_map,hx0]; rfl) (by kernel_rfl) rfl (by rw [List.map_set]; rfl))) ?_
 refine aU [1,3,4] [] <| kG <| dK 3 [1,3,4] [(4,aI (K6.wrap ((k : Int) + 1)))] <| cJ [1,3,4] [(4,aI (K6.wrap ((k : Int) + 1)))] [(4,aI ((k : Int) + 1))] (by rw [show (K6.wrap ((k : Int) + 1)) = ((k : Int) + 1) from al (by omega) (by omega)]) (by kernel_rfl) ?_
 refine aU [1,3,4] [] ?_
 exact ⟨⟨(k + 1,l.set k (-1)),⟨hlt,(by rw [List.length_set]; exact hl),init_step HK (by omega)⟩⟩,kF 1 0 [1,3,4],by show (fun (k : Nat) (l : List Int) => 33 - k) (k + 1) (l.set k (-1)) < 33 - k; (dsimp only; omega)⟩
 have h2p := of_decide_eq_false h2
 have hk33 : k = 33 := by simp at h2; omega
 have hl1 : l = List.replicate 33 (-1) := by rw [hk33,← hl,List.take_length] at HK; rw [HK,hl]
 refine c5 <| kS <| kQ <| aU [1,3,5] [(5,aI 0)] ?_
 refine aj <| bI (α := {x : Nat × List Int // (fun (i : Nat) (l2 : List Int) => i ≤ r.held.length ∧ l2.length = 33 ∧ eB l r.held = eB l2 (r.held.drop i)) x.1 x.2}) (fun x => (fun (i : Nat) (l2 : List Int) => (⟨[(1,.p 0 0),(3,.v (.slice (some ⟨g1,0,none⟩) 33 33)),(5,aI (i : Int))],[⟨46,ab r (.slice Arh r.held.length Crh)⟩],[],[a9 w.heap.size 3 1 (.slice (some ⟨g1,0,none⟩) 33 33) (l2.map az),bz (.slice Arh r.held.length Crh) 2 (r.held.map pC)]⟩ : St)) x.1.1 x.1.2) (fun x => (fun (i : Nat) (l2 : List Int) => r.held.length - i) x.1.1 x.1.2) ⟨(0,l),⟨Nat.zero_le _,hl,rfl⟩⟩ (en [0,1] <| kF 1 0 [1,3,5]) ?_
 rintro ⟨⟨i,l2⟩,hi,hl2,H2⟩
 try dsimp only
 try dsimp only at hi hl2 H2
 refine kS <| kQ <| aU [1,3,5,21] [(21,aB (decide ((i : Int) < ((r.held.length : Nat) : Int))))] <| kC (decide ((i : Int) < ((r.held.length : Nat) : Int))) (fun h3 => ?_) (fun h3 => ?_)
 have h3p := of_decide_eq_true h3
 have hlt2 : i < r.held.length := by simpa using h3
 obtain ⟨pp,hx⟩ : ∃ p,r.held[i]? = some p := ⟨_,List.getElem?_eq_getElem hlt2⟩
 have hin := hheld pp (List.mem_of_getElem? hx)
 refine kK <| kS <| aj <| kQ <| aU [1,3,5,6] [(6,aI 0)] ?_
 refine aj <| bI (α := {x : Nat × List Int // (fun (q : Nat) (l3 : List Int) => q ≤ pp.text.size ∧ l3.length = 33 ∧ l3 = gp l2 pp.off.toNat pp.text q) x.1 x.2}) (fun x => (fun (q : Nat) (l3 : List Int) => (⟨[(1,.p 0 0),(3,.v (.slice (some ⟨g1,0,none⟩) 33 33)),(5,aI (i : Int)),(6,aI (q : Int))],[⟨46,ab r (.slice Arh r.held.length Crh)⟩],[],[a9 w.heap.size 3 1 (.slice (some ⟨g1,0,none⟩) 33 33) (l3.map az),bz (.slice Arh r.held.length Crh) 2 (r.held.map pC)]⟩ : St)) x.1.1 x.1.2) (fun x => (fun (q : Nat) (l3 : List Int) => pp.text.size - q) x.1.1 x.1.2) ⟨(0,l2),⟨Nat.zero_le _,hl2,rfl⟩⟩ (en [0,1] <| kF 1 0 [1,3,5,6]) ?_
 rintro ⟨⟨q,l3⟩,hq,hl3,H3⟩
 try dsimp only
 try dsimp only at hq hl3 H3
 refine kS <| kQ <| fe (kd := .i64) (T := 44) (e := 72) (K := 2) 4 [1,3,5,6,24,26,27] [(24,aI (q : Int)),(26,.v (.slice Arh r.held.length Crh)),(27,aI (i : Int))] i [iI pp.off,.string pp.text] (bz (.slice Arh r.held.length Crh) 2 (r.held.map pC)) (by kernel_rfl) rfl (by kernel_rfl) rfl rfl (by kernel_rfl) (by kernel_rfl) (by kernel_rfl) (by kernel_rfl) hlt2 (by simp) (fun w h => h) (fun b h => h) (by simp only [List.getElem?_map,hx]; rfl) ?_
 refine aU [1,3,5,6,32] [(32,aB (decide ((q : Int) < (pp.text.size : Int))))] <| kC (decide ((q : Int) < (pp.text.size : Int))) (fun h4 => ?_) (fun h4 => ?_)
 have h4p := of_decide_eq_true h4
 have hlt3 : q < pp.text.size := by simpa using h4
 have hbr := gf pp.text q
 obtain ⟨x3,hx3⟩ : ∃ x,l3[pp.off.toNat + q]? = some x := ⟨_,List.getElem?_eq_getElem (by omega)⟩
 refine kK <| kS <| aj <| xw_wk (wkf (s' := ⟨[(1,.p 0 0),(3,.v (.slice (some ⟨g1,0,none⟩) 33 33)),(5,aI (i : Int)),(6,aI (q : Int)),(32,aB (decide ((q : Int) < (pp.text.size : Int))))],[⟨46,ab r (.slice Arh r.held.length Crh)⟩],[],[a9 w.heap.size 3 1 (.slice (some ⟨g1,0,none⟩) 33 33) (l3.map az),bz (.slice Arh r.held.length Crh) 2 (r.held.map pC)]⟩) 1 0 [1,3,5,6,32] (by kernel_rfl)) ?_
 refine d4 <| dm (K := 2) (j := i) [iI pp.off,.string pp.text] (bz (.slice Arh r.held.length Crh) 2 (r.held.map pC)) (fun _ _ h => h) (by simp) (fun w h => h) (fun b h => h) (by simp only [List.getElem?_map,hx]; rfl) (fun bq5 offq5 hAq5 => ?_)
 refine xws_know (ψ := bq5 ≠ g1) (fun _ _ _ _ hr => row_ne hr 0 1 rfl rfl rfl (by decide) hAq5 i [iI pp.off,.string pp.text] (by simp only [List.getElem?_map,hx]; rfl)) (fun hneq5g1 => ?_)
 refine dm (K := 2) (j := i) [iI pp.off,.string pp.text] (bz (.slice Arh r.held.length Crh) 2 (r.held.map pC)) (fun _ _ h => h) (by simp) (fun w h => h) (fun b h => h) (by simp only [List.getElem?_map,hx]; rfl) (fun bq6 offq6 hAq6 => ?_)
 refine xws_know (ψ := bq6 ≠ g1) (fun _ _ _ _ hr => row_ne hr 0 1 rfl rfl rfl (by decide) hAq6 i [iI pp.off,.string pp.text] (by simp only [List.getElem?_map,hx]; rfl)) (fun hneq6g1 => ?_)
 refine cl [] (by kernel_rfl) (fun ρ σ hq7 => ?_)
 refine cK [0,1,2,3,7,9,10,11,15] [50,46,45,42,38,37,35,1,3,5,6] 11 [(50,aI (q : Int)),(46,aI (i : Int)),(45,.v (.slice Arh r.held.length Crh)),(42,aI (q : Int)),(38,aI (i : Int)),(37,.v (.slice Arh r.held.length Crh)),(35,.v (.slice (some ⟨g1,0,none⟩) 33 33)),(1,.p 0 0),(3,.v (.slice (some ⟨g1,0,none⟩) 33 33)),(5,aI (i : Int)),(6,aI (q : Int))] <| cO (kd := .i64) (T := 44) (e := 72) (K := 2) (j := i) (A := Arh) (len := r.held.length) (cap := Crh) 4 0 _ rfl (by kernel_rfl) (by kernel_rfl) (by kernel_rfl) (fun _ _ h => h) (by kernel_rfl) rfl rfl (by kernel_rfl) (by kernel_rfl) (by kernel_rfl) (by kernel_rfl) hlt2 hAq5 hq7.1.2 (by kernel_rfl) rfl ?_
 refine cK [5,6,8] [43,50,46,45,35,1,3,5,6] 7 [(43,aI (K6.wrap (pp.off + (q : Int)))),(50,aI (q : Int)),(46,aI (i : Int)),(45,.v (.slice Arh r.held.length Crh)),(35,.v (.slice (some ⟨g1,0,none⟩) 33 33)),(1,.p 0 0),(3,.v (.slice (some ⟨g1,0,none⟩) 33 33)),(5,aI (i : Int)),(6,aI (q : Int))] <| xe_nv [43,50,46,45,35,1,3,5,6] [(43,aI (K6.wrap (pp.off + (q : Int))))] [(43,aI ((pp.off.toNat + q : Nat) : Int))] (by rw [show (K6.wrap (pp.off + (q : Int))) = ((pp.off.toNat + q : Nat) : Int) from by rw [al (by omega) (by omega)]; omega]) (by kernel_rfl) ?_
 refine cO (kd := .i64) (T := 44) (e := 72) (K := 2) (j := i) (A := Arh) (len := r.held.length) (cap := Crh) 12 1 _ rfl (by kernel_rfl) (by kernel_rfl) (by kernel_rfl) (fun _ _ h => h) (by kernel_rfl) rfl rfl (by kernel_rfl) (by kernel_rfl) (by kernel_rfl) (by kernel_rfl) hlt2 hAq6 hq7.2 (by kernel_rfl) rfl ?_
 refine cK [13,14] [49,43,50,35,1,3,5,6] 4 [(49,.v (.string pp.text)),(43,aI ((pp.off.toNat + q : Nat) : Int)),(50,aI (q : Int)),(35,.v (.slice (some ⟨g1,0,none⟩) 33 33)),(1,.p 0 0),(3,.v (.slice (some ⟨g1,0,none⟩) 33 33)),(5,aI (i : Int)),(6,aI (q : Int))] <| kX 16 (.int .u8 (bP pp.text q)) rfl (fun _ _ ww hA => act_tix (kd := .i64) (t := pp.text) q hA rfl rfl (by kernel_rfl) (by kernel_rfl) hlt3 ww) ?_
 refine cK [17] [52,43,35,1,3,5,6] 2 [(52,aI (K6.wrap (bP pp.text q))),(43,aI ((pp.off.toNat + q : Nat) : Int)),(35,.v (.slice (some ⟨g1,0,none⟩) 33 33)),(1,.p 0 0),(3,.v (.slice (some ⟨g1,0,none⟩) 33 33)),(5,aI (i : Int)),(6,aI (q : Int))] <| xe_nv [52,43,35,1,3,5,6] [(52,aI (K6.wrap (bP pp.text q)))] [(52,aI (bP pp.text q))] (by rw [show (K6.wrap (bP pp.text q)) = (bP pp.text q) from al (by omega) (by omega)]) (by kernel_rfl) ?_
 refine kX 18 (.pointer (some ⟨g1,(pp.off.toNat + q) * 1,none⟩)) rfl (fun _ _ ww hA => e9 (kd := .i64) (T := 57) (e := 3) (K := 1) (g := g1) (N := 33) (cap := 33) (pp.off.toNat + q) rfl hA rfl rfl (by kernel_rfl) (by kernel_rfl) (by kernel_rfl) (by omega) ww) ?_
 refine kA [19] <| xs_hsG 19 g1 rfl (by kernel_rfl) (by kernel_rfl) (by kernel_rfl) (a5 a7) (fun kk rr hk => match kk,hk with | 0,_ => .inr (fun h => hneq5g1 ((congrArg Prod.fst hq7.1.2).symm.trans h)) | 1,_ => .inr (fun h => hneq6g1 ((congrArg Prod.fst hq7.2).symm.trans h)) | nn + 2,hk => (by simp [addRow] at hk)) (hs_stR (g := g1) (B := w.heap.size) (e := 3) (K := 1) (N := 33) (cap := 33) (rs := (l3.map az)) (rs' := (l3.set (pp.off.toNat + q) (bP pp.text q)).map az) (v := (iI (bP pp.text q))) (i := 0) (off := (pp.off.toNat + q) * 1) (pp.off.toNat + q) 0 [iI x3] (row' := [iI (bP pp.text q)]) rfl rfl (by kernel_rfl) rfl (by kernel_rfl) (by kernel_rfl) (by kernel_rfl) (by kernel_rfl) (Nat.le_refl _) (by simp only [List.getElem?_map,hx3]; rfl) (by kernel_rfl) rfl (by rw [List.map_set]; rfl)) ?_
 refine kZ <| kG <| dK 3 [1,3,5,6] [(6,aI (K6.wrap ((q : Int) + 1)))] <| cJ [1,3,5,6] [(6,aI (K6.wrap ((q : Int) + 1)))] [(6,aI ((q : Int) + 1))] (by rw [show (K6.wrap ((q : Int) + 1)) = ((q : Int) + 1) from al (by omega) (by omega)]) (by kernel_rfl) ?_
 refine aU [1,3,5,6] [] ?_
 exact ⟨⟨(q + 1,(l3.set (pp.off.toNat + q) (bP pp.text q))),⟨hlt3,(by rw [List.length_set]; exact hl3),(by rw [H3]; rfl)⟩⟩,kF 1 0 [1,3,5,6],by show (fun (q : Nat) (l3 : List Int) => pp.text.size - q) (q + 1) (l3.set (pp.off.toNat + q) (bP pp.text q)) < pp.text.size - q; (dsimp only; omega)⟩
 have h4p := of_decide_eq_false h4
 have hq3 : q = pp.text.size := by simp at h4; omega
 refine c5 <| kG <| dK 3 [1,3,5] [(5,aI (K6.wrap ((i : Int) + 1)))] <| cJ [1,3,5] [(5,aI (K6.wrap ((i : Int) + 1)))] [(5,aI ((i : Int) + 1))] (by rw [show (K6.wrap ((i : Int) + 1)) = ((i : Int) + 1) from al (by omega) (by omega)]) (by kernel_rfl) ?_
 refine aD [1,3,5] [(1,.p 0 0),(3,.v (.slice (some ⟨g1,0,none⟩) 33 33)),(5,aI ((i : Int) + 1))] ?_
 exact ⟨⟨(i + 1,l3),⟨hlt2,hl3,(by rw [H2,drop_cons_of hx,eB,← hq3,← H3])⟩⟩,kF 1 0 [1,3,5],by show (fun (i : Nat) (l2 : List Int) => r.held.length - i) (i + 1) l3 < r.held.length - i; (dsimp only; omega)⟩
 have h3p := of_decide_eq_false h3
 have hi2 : i = r.held.length := by simp at h3; omega
 rw [hi2,List.drop_length] at H2; simp only [eB] at H2
 refine c5 <| kQ <| aD [2] [(2,.v (.slice (some ⟨g1,0,none⟩) 33 33))] <| kR ?_
 have hmod : aa r = l2 := by (unfold aa; rw [← hl1]; exact H2)
 exact ⟨[.slice (some ⟨g1,0,none⟩) 33 33],by kernel_rfl,fun w' hb hf ha => by rw [hmod,hl2]; exact xo1 ((((some ⟨g1,0,none⟩) : Option Addr),33)) rfl rfl (pW (hf _ m0) hB) hb⟩
end Go.Proofs.Ytccijpdjfelbmaa
