/- Contracts that this law needs, part 1. -/
import Derived.Test.YtccijpdjfelbmaaGreatYW
import Derived.Test.YtccijpdjfelbmaaGreatA5
import Derived.Test.YtccijpdjfelbmaaGreatG1
import Derived.Test.YtccijpdjfelbmaaGreatYD
import Derived.Test.YtccijpdjfelbmaaGreatG3
import Derived.Test.YtccijpdjfelbmaaGreatA2
import Derived.Test.YtccijpdjfelbmaaGreatG2
namespace Go.Proofs.YtccijpdjfelbmaaGreat
open Go.RowKit
set_option linter.unusedVariables false
set_option linter.unusedSimpArgs false
set_option maxRecDepth 100000
set_option maxHeartbeats 2000000
abbrev aI (x : Int) : AV := .v (.int .i64 x)
abbrev aB (x : Bool) : AV := .v (.bool x)
abbrev aP (x : Nat) : AV := .v (.pointer (some ⟨x, 0, none⟩))
abbrev gP (x : Nat) : Value := .pointer (some ⟨x, 0, none⟩)
abbrev iI (x : Int) : Value := .int .i64 x
abbrev cF (B g : Nat) (A : Option Addr) (c : List Int) (cap : Nat) : Fact := eg B g 70 (.slice A c.length cap) c.length
abbrev cS (a : Option Addr) (c : Con) (n : Nat) : Value := .slice a c.r.held.length n
abbrev cH (a : Option Addr) (c : Con) (n : Nat) : Fact := aX (cS a c n) 2 (c.r.held.map pC)
abbrev sJ (a : Option Addr) (c : List Int) (n : Nat) : Value := .slice a c.length n
abbrev sQ (a : Option Addr) (c : List Int) (n : Nat) : Fact := aX (sJ a c n) 1 (c.map bR)
abbrev K6 : IntKind := .i64


theorem ysMssFor_c (c : Con) (rV : Value) (w : World)  : Calls Tryz.prog 119 #[.agg (a7 c rV).toArray] w fun e w' => e = .returned (iI (gL c)) ∧ Below w.heap.size w w' := by
 refine bL (args := [.agg (a7 c rV).toArray]) (fn := Tryz.f119) [] Tryz.func119 rfl Tryz.ntmps119 rfl (by simp) ?_
 refine kQ <| cy [1] ⟨[(1,.p 0 0)],[⟨41,a7 c rV⟩],[],[]⟩ <| kS <| kQ <| aE [1,6] [(1,.p 0 0),(6,aB (c.o.mss == 0))] ?_
 refine kC (c.o.mss == 0) (fun h1 => ?_) (fun h1 => ?_)
 have h1p := cD h1
 refine kQ <| aE [2] [(2,aI 536)] <| kR ?_
 exact ⟨[iI 536],by kernel_rfl,fun w' hb hf => ⟨eW (show (536 : Int) = gL c from by first | rfl | (simp [gL, *]; done) | (simp [gL, *]; omega) | grind [cu,gL]),hb⟩⟩
 have h1p := cA h1
 refine kK <| kQ <| em 3 [9] [(9,aI c.o.mss)] 118 [iI 1460,iI c.o.mss] (some 10) rfl (cz fun ww hf => gk 1460 c.o.mss ww ) ?_
 intro _
 refine em 0 [10] [(10,aI (min 1460 c.o.mss))] 95 [iI 1,iI (min 1460 c.o.mss)] (some 11) rfl (cz fun ww hf => ez 1 (min 1460 c.o.mss) ww ) ?_
 intro _
 refine aE [2] [(2,aI (max 1 (min 1460 c.o.mss)))] <| kR ?_
 exact ⟨[iI (max 1 (min 1460 c.o.mss))],by kernel_rfl,fun w' hb hf => ⟨eW (show (max 1 (min 1460 c.o.mss) : Int) = gL c from by first | rfl | (simp [gL, *]; done) | (simp [gL, *]; omega) | grind [cu,gL]),hb⟩⟩
theorem ysUnsent_c (c : Con) (rV : Value) (w : World)  : Calls Tryz.prog 120 #[.agg (a7 c rV).toArray] w fun e w' => e = .returned (.bool (gd c)) ∧ Below w.heap.size w w' := by
 refine bL (args := [.agg (a7 c rV).toArray]) (fn := Tryz.f120) [] Tryz.func120 rfl Tryz.ntmps120 rfl (by simp) ?_
 refine kQ <| cy [1] ⟨[(1,.p 0 0)],[⟨41,a7 c rV⟩],[],[]⟩ <| kS <| cn ⟨[(2,aB ((!(c.s.data.toList == (⟨#[]⟩ : ByteArray).toList)) || (c.s.fin && (!c.s.done))))],[⟨41,a7 c rV⟩],[],[]⟩ ?_ ?_
 refine kG <| eb 5 [1,7] [(1,.p 0 0),(7,aB (!(c.s.data.toList == (⟨#[]⟩ : ByteArray).toList)))] <| kP 7 (!(c.s.data.toList == (⟨#[]⟩ : ByteArray).toList)) (fun h1 => ?_) (fun h1 => ?_)
 have h1n := cd h1
 have h1np := h1n; simp only [beq_iff_eq,bne_iff_ne,beq_eq_false_iff_ne,bne_eq_false_iff_eq,ne_eq,cu] at h1np
 refine aE [2] [(2,aB true)] ?_
 show Wk _ _
 try rw [h1]
 exact kF 1 0 [2]
 have h1n := bS h1
 have h1np := h1n; simp only [beq_iff_eq,bne_iff_ne,beq_eq_false_iff_ne,bne_eq_false_iff_eq,ne_eq,cu] at h1np
 refine eb 4 [1,7,11] [(1,.p 0 0),(7,aB false),(11,aB c.s.fin)] <| kP 11 (c.s.fin) (fun h2 => ?_) (fun h2 => ?_)
 refine aE [2] [(2,aB (!c.s.done))] ?_
 show Wk _ _
 try rw [h1]
 try rw [h2]
 exact kF 1 0 [2]
 refine aE [2] [(2,aB false)] ?_
 show Wk _ _
 try rw [h1]
 try rw [h2]
 exact kF 1 0 [2]
 refine kR ?_
 exact ⟨[.bool ((!(c.s.data.toList == (⟨#[]⟩ : ByteArray).toList)) || (c.s.fin && (!c.s.done)))],by kernel_rfl,fun w' hb hf => ⟨aQ (show ((!(c.s.data.toList == (⟨#[]⟩ : ByteArray).toList)) || (c.s.fin && (!c.s.done)) : Bool) = gd c from by first | rfl | (simp [gd, *]; done) | (simp [gd, *]; omega) | grind [cu,gd]),hb⟩⟩
theorem gv (r : Rcv) (r_heldV : Value) (w : World) (hl_r_heldV : Sl w r_heldV 2 (r.held.map pC)) (hm : ∀ p ∈ r.held, p.text.size ≤ 1048576) (hsz : r.data.size ≤ 4611686018427387904) : Calls Tryz.prog 66 #[.agg (aa r r_heldV).toArray] w fun e w' => e = .returned (.bool (rO r)) ∧ Below w.heap.size w w' := by
 have hw := gm r
 obtain ⟨Arh,Crh,hvrh⟩ := hl_r_heldV.form
 rw [List.length_map] at hvrh; subst hvrh
 have hnrh := hl_r_heldV.len; rw [List.length_map] at hnrh
 have hqrh := Sl.capLe hl_r_heldV
 refine bL (args := [.agg (aa r (.slice Arh r.held.length Crh)).toArray]) (fn := Tryz.f66) [aX (.slice Arh r.held.length Crh) 2 (r.held.map pC)] Tryz.func66 rfl Tryz.ntmps66 rfl (by simp only [List.mem_cons,List.not_mem_nil,or_false,forall_eq_or_imp,forall_eq]; exact ⟨rfl,hl_r_heldV⟩) ?_
 refine kQ <| cy [1] ⟨[(1,.p 0 0)],[⟨37,aa r (.slice Arh r.held.length Crh)⟩],[],[aX (.slice Arh r.held.length Crh) 2 (r.held.map pC)]⟩ <| kQ <| dS 1 [1,7] [(7,.v (.agg (aa r (.slice Arh r.held.length Crh)).toArray))] 92 [.agg (aa r (.slice Arh r.held.length Crh)).toArray] (some 8) rfl (bu fun ww hf => ee r.next r.data r.held (.slice Arh r.held.length Crh) r.fin r.done ww (by omega)) ?_
 intro _
 refine aY [1,3] [(3,aI (wO r))] <| kS <| kQ <| dS 2 [1,3,10] [(10,aI r.next)] 91 [iI r.next,iI 32] (some 11) rfl (cz fun ww hf => eI r.next ww) ?_
 intro _
 refine dl 2 [1,3,13] [(13,aB (!(aL r.next 32)))] <| kP 13 (!(aL r.next 32)) (fun h1 => ?_) (fun h1 => ?_)
 have h1n := cd h1
 refine aY [1,3,36] [(36,aB true)] <| kT <| kQ <| aE [2] [(2,aB false)] ?_
 refine kR ?_
 exact ⟨[.bool false],by kernel_rfl,fun w' hb hf => ⟨aQ (show (false : Bool) = rO r from by first | rfl | (rw [HR,HK]; simp [*]; done) | (rw [HR,HK]; simp [*]; omega) | (rw [HR,HK]; grind [dd]) | (simp [rO,bp, *]; done) | (simp [rO,bp, *]; omega) | grind [rO,bp]),hb⟩⟩
 have h1n := bS h1
 refine dl 6 [1,3,19] [(19,aB (decide ((r.data.size : Int) > 32)))] <| kP 19 (decide ((r.data.size : Int) > 32)) (fun h2 => ?_) (fun h2 => ?_)
 have h2p := of_decide_eq_true h2
 refine aY [1,3,36] [(36,aB true)] <| kT <| kQ <| aE [2] [(2,aB false)] ?_
 refine kR ?_
 exact ⟨[.bool false],by kernel_rfl,fun w' hb hf => ⟨aQ (show (false : Bool) = rO r from by first | rfl | (rw [HR,HK]; simp [*]; done) | (rw [HR,HK]; simp [*]; omega) | (rw [HR,HK]; grind [dd]) | (simp [rO,bp, *]; done) | (simp [rO,bp, *]; omega) | grind [rO,bp]),hb⟩⟩
 have h2p := of_decide_eq_false h2
 refine dl 6 [1,3,25] [(25,aB (decide (((r.held.length : Nat) : Int) > 3)))] <| kP 25 (decide (((r.held.length : Nat) : Int) > 3)) (fun h3 => ?_) (fun h3 => ?_)
 have h3p := of_decide_eq_true h3
 refine aY [1,3,36] [(36,aB true)] <| kT <| kQ <| aE [2] [(2,aB false)] ?_
 refine kR ?_
 exact ⟨[.bool false],by kernel_rfl,fun w' hb hf => ⟨aQ (show (false : Bool) = rO r from by first | rfl | (rw [HR,HK]; simp [*]; done) | (rw [HR,HK]; simp [*]; omega) | (rw [HR,HK]; grind [dd]) | (simp [rO,bp, *]; done) | (simp [rO,bp, *]; omega) | grind [rO,bp]),hb⟩⟩
 have h3p := of_decide_eq_false h3
 refine dS 3 [1,3,25,27,28] [(25,aB false),(27,aI r.fin),(28,aI (wO r))] 63 [iI r.fin,iI (-1),iI (wO r)] (some 29) rfl (cz fun ww hf => dA r.fin (-1) (wO r) ww ) ?_
 intro _
 refine dl 3 [1,3,32] [(32,aB (!(cG r.fin (-1) (wO r))))] <| kP 32 (!(cG r.fin (-1) (wO r))) (fun h4 => ?_) (fun h4 => ?_)
 have h4n := cd h4
 refine aY [1,3,36] [(36,aB true)] <| kT <| kQ <| aE [2] [(2,aB false)] ?_
 refine kR ?_
 exact ⟨[.bool false],by kernel_rfl,fun w' hb hf => ⟨aQ (show (false : Bool) = rO r from by first | rfl | (rw [HR,HK]; simp [*]; done) | (rw [HR,HK]; simp [*]; omega) | (rw [HR,HK]; grind [dd]) | (simp [rO,bp, *]; done) | (simp [rO,bp, *]; omega) | grind [rO,bp]),hb⟩⟩
 have h4n := bS h4
 refine aY [1,3,36] [(36,aB (r.fin == 0))] <| kC (r.fin == 0) (fun h5 => ?_) (fun h5 => ?_)
 have h5p := cD h5
 refine kQ <| aE [2] [(2,aB false)] <| kR ?_
 exact ⟨[.bool false],by kernel_rfl,fun w' hb hf => ⟨aQ (show (false : Bool) = rO r from by first | rfl | (rw [HR,HK]; simp [*]; done) | (rw [HR,HK]; simp [*]; omega) | (rw [HR,HK]; grind [dd]) | (simp [rO,bp, *]; done) | (simp [rO,bp, *]; omega) | grind [rO,bp]),hb⟩⟩
 have h5p := cA h5
 refine kK <| kQ <| aY [1,3,4] [(4,aI 0)] <| kS <| kQ <| aE [1,3,4,5] [(1,.p 0 0),(3,aI (wO r)),(4,aI 0),(5,aI 0)] ?_
 refine ap ?_
 have hp : bp r = true := by first | (simp [bp, *]; done) | (simp [bp, *]; omega) | grind [bp]
 have hin := inB_tt.1 (rcvPre_iff.1 hp).2.2.2.1
 have HR := receiverOkS r hp
 refine bo (α := {x : Nat × Int // (fun (k : Nat) (z : Int) => k ≤ r.held.length ∧ 0 ≤ z ∧ z ≤ 32 ∧ dC (wO r) r.fin 0 r.held = dC (wO r) r.fin z (r.held.drop k)) x.1 x.2}) (fun x => (fun (k : Nat) (z : Int) => (⟨[(1,.p 0 0),(3,aI (wO r)),(4,aI z),(5,aI (k : Int))],[⟨37,aa r (.slice Arh r.held.length Crh)⟩],[],[aX (.slice Arh r.held.length Crh) 2 (r.held.map pC)]⟩ : St)) x.1.1 x.1.2) (fun x => r.held.length - x.1.1) ⟨(0,0),⟨Nat.zero_le _,by omega,by omega,rfl⟩⟩ (kF 1 0 [1,3,4,5]) ?_
 rintro ⟨⟨k,z⟩,hk,hz0,hz1,HK⟩
 try dsimp only
 try dsimp only at hk hz0 hz1 HK
 refine kS <| kQ <| aY [1,3,4,5,41] [(41,aB (decide ((k : Int) < ((r.held.length : Nat) : Int))))] <| kC (decide ((k : Int) < ((r.held.length : Nat) : Int))) (fun h6 => ?_) (fun h6 => ?_)
 have h6p := of_decide_eq_true h6
 have hlt : k < r.held.length := by simpa using h6
 obtain ⟨x,hx⟩ : ∃ x,r.held[k]? = some x := ⟨_,List.getElem?_eq_getElem hlt⟩
 have hxm := hm x (List.mem_of_getElem? hx)
 rw [drop_cons_of hx] at HK; simp only [dC,fT] at HK
 refine kK <| kS <| ap <| kQ <| da (kd := .i64) (T := 35) (e := 89) (K := 2) 3 [1,3,4,5,45,46] [(45,.v (.slice Arh r.held.length Crh)),(46,aI (k : Int))] k [iI x.off,.string x.text] (aX (.slice Arh r.held.length Crh) 2 (r.held.map pC)) (by kernel_rfl) rfl (by kernel_rfl) rfl rfl (by kernel_rfl) (by kernel_rfl) (by kernel_rfl) (by kernel_rfl) hlt (by simp) (fun w h => h) (fun b h => h) (by simp only [List.getElem?_map,hx]; rfl) ?_
 refine gU [1,3,4,5,6] [(6,.p 1 0)] [⟨89,pceL x⟩] <| kS <| kQ <| dl 4 [1,3,4,5,6,52] [(52,aB (x.text.toList == (⟨#[]⟩ : ByteArray).toList))] ?_
 refine kP 52 (x.text.toList == (⟨#[]⟩ : ByteArray).toList) (fun h7 => ?_) (fun h7 => ?_)
 have h7p := h7; simp only [beq_iff_eq,bne_iff_ne,beq_eq_false_iff_ne,bne_eq_false_iff_eq,ne_eq,cu] at h7p
 refine aY [1,3,5,6,73] [(73,aB true)] <| kT <| kQ <| aE [2] [(2,aB false)] ?_
 refine kR ?_
 exact ⟨[.bool false],by kernel_rfl,fun w' hb hf => ⟨aQ (show (false : Bool) = rO r from by first | rfl | (rw [HR,HK]; simp [*]; done) | (rw [HR,HK]; simp [*]; omega) | (rw [HR,HK]; grind [dd]) | (simp [rO,bp, *]; done) | (simp [rO,bp, *]; omega) | grind [rO,bp]),hb⟩⟩
 have h7p := h7; simp only [beq_iff_eq,bne_iff_ne,beq_eq_false_iff_ne,bne_eq_false_iff_eq,ne_eq,cu] at h7p
 refine dl 6 [1,3,5,6,58] [(58,aB (decide (x.off ≤ z)))] <| kP 58 (decide (x.off ≤ z)) (fun h8 => ?_) (fun h8 => ?_)
 have h8p := of_decide_eq_true h8
 refine aY [1,3,5,6,73] [(73,aB true)] <| kT <| kQ <| aE [2] [(2,aB false)] ?_
 refine kR ?_
 exact ⟨[.bool false],by kernel_rfl,fun w' hb hf => ⟨aQ (show (false : Bool) = rO r from by first | rfl | (rw [HR,HK]; simp [*]; done) | (rw [HR,HK]; simp [*]; omega) | (rw [HR,HK]; grind [dd]) | (simp [rO,bp, *]; done) | (simp [rO,bp, *]; omega) | grind [rO,bp]),hb⟩⟩
 have h8p := of_decide_eq_false h8
 refine dl 6 [1,3,5,6,64] [(64,aB (decide (x.off > (wO r))))] <| kP 64 (decide (x.off > (wO r))) (fun h9 => ?_) (fun h9 => ?_)
 have h9p := of_decide_eq_true h9
 refine aY [1,3,5,6,73] [(73,aB true)] <| kT <| kQ <| aE [2] [(2,aB false)] ?_
 refine kR ?_
 exact ⟨[.bool false],by kernel_rfl,fun w' hb hf => ⟨aQ (show (false : Bool) = rO r from by first | rfl | (rw [HR,HK]; simp [*]; done) | (rw [HR,HK]; simp [*]; omega) | (rw [HR,HK]; grind [dd]) | (simp [rO,bp, *]; done) | (simp [rO,bp, *]; omega) | grind [rO,bp]),hb⟩⟩
 have h9p := of_decide_eq_false h9
 refine dl 9 [1,3,5,6,73] [(73,aB (decide ((K6.wrap (x.off + (x.text.size : Int))) > (wO r))))] <| bE [1,3,5,6,73] [(73,aB (decide ((K6.wrap (x.off + (x.text.size : Int))) > (wO r))))] [(73,aB (decide ((x.off + (x.text.size : Int)) > (wO r))))] (by rw [show (K6.wrap (x.off + (x.text.size : Int))) = (x.off + (x.text.size : Int)) from ao (by omega) (by omega)]) (by kernel_rfl) ?_
 refine aY [1,3,5,6,73] [] <| kC (decide ((x.off + (x.text.size : Int)) > (wO r))) (fun h10 => ?_) (fun h10 => ?_)
 have h10p := of_decide_eq_true h10
 refine kQ <| aE [2] [(2,aB false)] <| kR ?_
 exact ⟨[.bool false],by kernel_rfl,fun w' hb hf => ⟨aQ (show (false : Bool) = rO r from by first | rfl | (rw [HR,HK]; simp [*]; done) | (rw [HR,HK]; simp [*]; omega) | (rw [HR,HK]; grind [dd]) | (simp [rO,bp, *]; done) | (simp [rO,bp, *]; omega) | grind [rO,bp]),hb⟩⟩
 have h10p := of_decide_eq_false h10
 refine kK <| kG <| eb 7 [1,3,4,5] [(1,.p 0 0),(3,aI (wO r)),(4,aI (K6.wrap (x.off + (x.text.size : Int)))),(5,aI (k : Int))] <| fD (t' := [(1,.p 0 0),(3,aI (wO r)),(4,aI (x.off + (x.text.size : Int))),(5,aI (k : Int))]) (by rw [show (K6.wrap (x.off + (x.text.size : Int))) = (x.off + (x.text.size : Int)) from ao (by omega) (by omega)]) ?_
 refine aY [1,3,4,5] [] <| kG <| dl 3 [1,3,4,5] [(5,aI (K6.wrap ((k : Int) + 1)))] <| bE [1,3,4,5] [(5,aI (K6.wrap ((k : Int) + 1)))] [(5,aI ((k : Int) + 1))] (by rw [show (K6.wrap ((k : Int) + 1)) = ((k : Int) + 1) from ao (by omega) (by omega)]) (by kernel_rfl) ?_
 refine aY [1,3,4,5] [] ?_
 exact ⟨⟨(k + 1,x.off + (x.text.size : Int)),⟨by omega,by omega,by omega,by rw [HK]; first | (simp [*]; done) | (simp [*]; omega) | grind⟩⟩,kF 1 0 [1,3,4,5],by show r.held.length - (k + 1) < r.held.length - k; omega⟩
 have h6p := of_decide_eq_false h6
 have hge : k = r.held.length := by simp at h6; omega
 subst hge; simp only [List.drop_length,dC,fT] at HK
 refine bY <| kQ <| dl 4 [1,4,83] [(83,aB (decide (r.fin < 0)))] <| kP 83 (decide (r.fin < 0)) (fun h11 => ?_) (fun h11 => ?_)
 have h11p := of_decide_eq_true h11
 refine dl 10 [1,89,93] [(89,aB true),(93,aB (!r.done))] <| kP 93 (!r.done) (fun h12 => ?_) (fun h12 => ?_)
 have h12n := cd h12
 refine aE [2] [(2,aB true)] <| kR ?_
 exact ⟨[.bool true],by kernel_rfl,fun w' hb hf => ⟨aQ (show (true : Bool) = rO r from by first | rfl | (rw [HR,HK]; simp [*]; done) | (rw [HR,HK]; simp [*]; omega) | (rw [HR,HK]; grind [dd]) | (simp [rO,bp, *]; done) | (simp [rO,bp, *]; omega) | grind [rO,bp]),hb⟩⟩
 have h12n := bS h12
 refine dl 5 [1,89,93,98] [(93,aB false),(98,aB (((r.held.length : Nat) : Int) == 0))] <| kP 98 (((r.held.length : Nat) : Int) == 0) (fun h13 => ?_) (fun h13 => ?_)
 have h13p := cD h13
 refine aE [2] [(2,aB (r.fin == (-1)))] <| kR ?_
 exact ⟨[.bool (r.fin == (-1))],by kernel_rfl,fun w' hb hf => ⟨aQ (show (r.fin == (-1) : Bool) = rO r from by first | rfl | (rw [HR,HK]; simp [*]; done) | (rw [HR,HK]; simp [*]; omega) | (rw [HR,HK]; grind [dd]) | (simp [rO,bp, *]; done) | (simp [rO,bp, *]; omega) | grind [rO,bp]),hb⟩⟩
 have h13p := cA h13
 refine aE [2] [(2,aB false)] <| kR ?_
 exact ⟨[.bool false],by kernel_rfl,fun w' hb hf => ⟨aQ (show (false : Bool) = rO r from by first | rfl | (rw [HR,HK]; simp [*]; done) | (rw [HR,HK]; simp [*]; omega) | (rw [HR,HK]; grind [dd]) | (simp [rO,bp, *]; done) | (simp [rO,bp, *]; omega) | grind [rO,bp]),hb⟩⟩
 have h11p := of_decide_eq_false h11
 refine dl 6 [1,89] [(89,aB (decide (z ≤ r.fin)))] <| kP 89 (decide (z ≤ r.fin)) (fun h14 => ?_) (fun h14 => ?_)
 have h14p := of_decide_eq_true h14
 refine dl 4 [1,89,93] [(89,aB true),(93,aB (!r.done))] <| kP 93 (!r.done) (fun h15 => ?_) (fun h15 => ?_)
 have h15n := cd h15
 refine aE [2] [(2,aB true)] <| kR ?_
 exact ⟨[.bool true],by kernel_rfl,fun w' hb hf => ⟨aQ (show (true : Bool) = rO r from by first | rfl | (rw [HR,HK]; simp [*]; done) | (rw [HR,HK]; simp [*]; omega) | (rw [HR,HK]; grind [dd]) | (simp [rO,bp, *]; done) | (simp [rO,bp, *]; omega) | grind [rO,bp]),hb⟩⟩
 have h15n := bS h15
 refine dl 5 [1,89,93,98] [(93,aB false),(98,aB (((r.held.length : Nat) : Int) == 0))] <| kP 98 (((r.held.length : Nat) : Int) == 0) (fun h16 => ?_) (fun h16 => ?_)
 have h16p := cD h16
 refine aE [2] [(2,aB (r.fin == (-1)))] <| kR ?_
 exact ⟨[.bool (r.fin == (-1))],by kernel_rfl,fun w' hb hf => ⟨aQ (show (r.fin == (-1) : Bool) = rO r from by first | rfl | (rw [HR,HK]; simp [*]; done) | (rw [HR,HK]; simp [*]; omega) | (rw [HR,HK]; grind [dd]) | (simp [rO,bp, *]; done) | (simp [rO,bp, *]; omega) | grind [rO,bp]),hb⟩⟩
 have h16p := cA h16
 refine aE [2] [(2,aB false)] <| kR ?_
 exact ⟨[.bool false],by kernel_rfl,fun w' hb hf => ⟨aQ (show (false : Bool) = rO r from by first | rfl | (rw [HR,HK]; simp [*]; done) | (rw [HR,HK]; simp [*]; omega) | (rw [HR,HK]; grind [dd]) | (simp [rO,bp, *]; done) | (simp [rO,bp, *]; omega) | grind [rO,bp]),hb⟩⟩
 have h14p := of_decide_eq_false h14
 refine aE [2] [(2,aB false)] <| kR ?_
 exact ⟨[.bool false],by kernel_rfl,fun w' hb hf => ⟨aQ (show (false : Bool) = rO r from by first | rfl | (rw [HR,HK]; simp [*]; done) | (rw [HR,HK]; simp [*]; omega) | (rw [HR,HK]; grind [dd]) | (simp [rO,bp, *]; done) | (simp [rO,bp, *]; omega) | grind [rO,bp]),hb⟩⟩
theorem ysSameReceiver_c (a : Rcv) (a_heldV : Value) (b : Rcv) (b_heldV : Value) (w : World) (hl_a_heldV : Sl w a_heldV 2 (a.held.map pC)) (hl_b_heldV : Sl w b_heldV 2 (b.held.map pC))  : Calls Tryz.prog 40 #[.agg (aa a a_heldV).toArray, .agg (aa b b_heldV).toArray] w fun e w' => e = .returned (.bool (bJ a b)) ∧ Below w.heap.size w w' := by
 obtain ⟨Aah,Cah,hvah⟩ := hl_a_heldV.form
 rw [List.length_map] at hvah; subst hvah
 have hnah := hl_a_heldV.len; rw [List.length_map] at hnah
 have hqah := Sl.capLe hl_a_heldV
 obtain ⟨Abh,Cbh,hvbh⟩ := hl_b_heldV.form
 rw [List.length_map] at hvbh; subst hvbh
 have hnbh := hl_b_heldV.len; rw [List.length_map] at hnbh
 have hqbh := Sl.capLe hl_b_heldV
 refine bL (args := [.agg (aa a (.slice Aah a.held.length Cah)).toArray,.agg (aa b (.slice Abh b.held.length Cbh)).toArray]) (fn := Tryz.f40) [aX (.slice Aah a.held.length Cah) 2 (a.held.map pC),aX (.slice Abh b.held.length Cbh) 2 (b.held.map pC)] Tryz.func40 rfl Tryz.ntmps40 rfl (by simp only [List.mem_cons,List.not_mem_nil,or_false,forall_eq_or_imp,forall_eq]; exact ⟨⟨rfl,hl_a_heldV⟩,⟨rfl,hl_b_heldV⟩⟩) ?_
 refine kQ <| cy [2,3] ⟨[(2,.p 0 0),(3,.p 1 0)],[⟨37,aa a (.slice Aah a.held.length Cah)⟩,⟨37,aa b (.slice Abh b.held.length Cbh)⟩],[],[aX (.slice Aah a.held.length Cah) 2 (a.held.map pC),aX (.slice Abh b.held.length Cbh) 2 (b.held.map pC)]⟩ <| kS <| kS <| cn ⟨[(2,.p 0 0),(3,.p 1 0),(40,aB ((a.next != b.next) || ((!(a.data.toList == b.data.toList)) || ((a.fin != b.fin) || ((!(a.done == b.done)) || (((a.held.length : Nat) : Int) != ((b.held.length : Nat) : Int)))))))],[⟨37,aa a (.slice Aah a.held.length Cah)⟩,⟨37,aa b (.slice Abh b.held.length Cbh)⟩],[],[aX (.slice Aah a.held.length Cah) 2 (a.held.map pC),aX (.slice Abh b.held.length Cbh) 2 (b.held.map pC)]⟩ ?_ ?_
 refine kG <| eb 6 [2,3,11] [(2,.p 0 0),(3,.p 1 0),(11,aB (a.next != b.next))] <| kP 11 (a.next != b.next) (fun h1 => ?_) (fun h1 => ?_)
 have h1p := neT h1
 refine aE [2,3,40] [(2,.p 0 0),(3,.p 1 0),(40,aB true)] ?_
 show Wk _ _
 try rw [h1]
 exact kF 2 0 [2,3,40]
 have h1p := neF h1
 refine eb 7 [2,3,18] [(2,.p 0 0),(3,.p 1 0),(18,aB (!(a.data.toList == b.data.toList)))] <| kP 18 (!(a.data.toList == b.data.toList)) (fun h2 => ?_) (fun h2 => ?_)
 have h2n := cd h2
 have h2np := h2n; simp only [beq_iff_eq,bne_iff_ne,beq_eq_false_iff_ne,bne_eq_false_iff_eq,ne_eq,cu] at h2np
 refine aE [2,3,40] [(2,.p 0 0),(3,.p 1 0),(40,aB true)] ?_
 show Wk _ _
 try rw [h1]
 try rw [h2]
 exact kF 2 0 [2,3,40]
 have h2n := bS h2
 have h2np := h2n; simp only [beq_iff_eq,bne_iff_ne,beq_eq_false_iff_ne,bne_eq_false_iff_eq,ne_eq,cu] at h2np
 refine eb 7 [2,3,25] [(2,.p 0 0),(3,.p 1 0),(25,aB (a.fin != b.fin))] <| kP 25 (a.fin != b.fin) (fun h3 => ?_) (fun h3 => ?_)
 have h3p := neT h3
 refine aE [2,3,40] [(2,.p 0 0),(3,.p 1 0),(40,aB true)] ?_
 show Wk _ _
 try rw [h1]
 try rw [h2]
 try rw [h3]
 exact kF 2 0 [2,3,40]
 have h3p := neF h3
 refine eb 7 [2,3,32] [(2,.p 0 0),(3,.p 1 0),(32,aB (!(a.done == b.done)))] <| kP 32 (!(a.done == b.done)) (fun h4 => ?_) (fun h4 => ?_)
 have h4n := cd h4
 have h4np := cA h4n
 refine aE [2,3,40] [(2,.p 0 0),(3,.p 1 0),(40,aB true)] ?_
 show Wk _ _
 try rw [h1]
 try rw [h2]
 try rw [h3]
 try rw [h4]
 exact kF 2 0 [2,3,40]
 have h4n := bS h4
 have h4np := cD h4n
 refine aE [2,3,40] [(2,.p 0 0),(3,.p 1 0),(40,aB (((a.held.length : Nat) : Int) != ((b.held.length : Nat) : Int)))] ?_
 show Wk _ _
 try rw [h1]
 try rw [h2]
 try rw [h3]
 try rw [h4]
 exact kF 2 0 [2,3,40]
 refine kC ((a.next != b.next) || ((!(a.data.toList == b.data.toList)) || ((a.fin != b.fin) || ((!(a.done == b.done)) || (((a.held.length : Nat) : Int) != ((b.held.length : Nat) : Int)))))) (fun h5 => ?_) (fun h5 => ?_)
 refine kQ <| aE [4] [(4,aB false)] <| kR ?_
 exact ⟨[.bool false],by kernel_rfl,fun w' hb hf => ⟨aQ (show (false : Bool) = bJ a b from by first | rfl | (simp [bJ, *]; done) | grind [bJ,dv]),hb⟩⟩
 have h5l := gR h5
 have h5lp := neF h5l
 have h5r := gI h5
 have h5rl := gR h5r
 have h5rln := bS h5rl
 have h5rlnp := h5rln; simp only [beq_iff_eq,bne_iff_ne,beq_eq_false_iff_ne,bne_eq_false_iff_eq,ne_eq,cu] at h5rlnp
 have h5rr := gI h5r
 have h5rrl := gR h5rr
 have h5rrlp := neF h5rrl
 have h5rrr := gI h5rr
 have h5rrrl := gR h5rrr
 have h5rrrln := bS h5rrrl
 have h5rrrlnp := cD h5rrrln
 have h5rrrr := gI h5rrr
 have h5rrrrp := neF h5rrrr
 refine kK <| kS <| kQ <| aE [2,3,5] [(2,.p 0 0),(3,.p 1 0),(5,aI 0)] ?_
 refine ap ?_
 have hlen : a.held.length = b.held.length := by omega
 refine bo (α := {x : Nat // (fun (k : Nat) => k ≤ a.held.length ∧ ∀ (i : Nat) (x y : Pce),i < k → a.held[i]? = some x → b.held[i]? = some y → pceEq x y = true) x}) (fun x => (fun (k : Nat) => (⟨[(2,.p 0 0),(3,.p 1 0),(5,aI (k : Int))],[⟨37,aa a (.slice Aah a.held.length Cah)⟩,⟨37,aa b (.slice Abh b.held.length Cbh)⟩],[],[aX (.slice Aah a.held.length Cah) 2 (a.held.map pC),aX (.slice Abh b.held.length Cbh) 2 (b.held.map pC)]⟩ : St)) x.1) (fun x => a.held.length - x.1) ⟨(0),⟨Nat.zero_le _,fun i x y hi => by omega⟩⟩ (kF 2 0 [2,3,5]) ?_
 rintro ⟨k,hk,HK⟩
 try dsimp only
 try dsimp only at hk HK
 refine kS <| kQ <| aE [2,3,5,45] [(2,.p 0 0),(3,.p 1 0),(5,aI (k : Int)),(45,aB (decide ((k : Int) < ((a.held.length : Nat) : Int))))] <| kC (decide ((k : Int) < ((a.held.length : Nat) : Int))) (fun h6 => ?_) (fun h6 => ?_)
 have h6p := of_decide_eq_true h6
 have hlt : k < a.held.length := by simpa using h6
 obtain ⟨x,hx⟩ : ∃ x,a.held[k]? = some x := ⟨_,List.getElem?_eq_getElem hlt⟩
 obtain ⟨y,hy⟩ : ∃ y,b.held[k]? = some y := ⟨_,List.getElem?_eq_getElem (by omega)⟩
 refine kK <| kS <| ap <| kS <| dx ?_
 refine dr (K := 2) (j := k) [iI x.off,.string x.text] (aX (.slice Aah a.held.length Cah) 2 (a.held.map pC)) (fun _ _ h => h) (by simp) (fun w h => h) (fun b h => h) (by simp only [List.getElem?_map,hx]; rfl) (fun bq7 offq7 hAq7 => ?_)
 refine dr (K := 2) (j := k) [iI y.off,.string y.text] (aX (.slice Abh b.held.length Cbh) 2 (b.held.map pC)) (fun _ _ h => h) (by simp) (fun w h => h) (fun b h => h) (by simp only [List.getElem?_map,hy]; rfl) (fun bq8 offq8 hAq8 => ?_)
 refine ca [] (by kernel_rfl) (fun ρ σ hq9 => ?_)
 refine cJ [0,1,2,5,6,7] [55,54,50,49,2,3,5] 5 [(55,aI (k : Int)),(54,.v (.slice Abh b.held.length Cbh)),(50,aI (k : Int)),(49,.v (.slice Aah a.held.length Cah)),(2,.p 0 0),(3,.p 1 0),(5,aI (k : Int))] <| cM (kd := .i64) (T := 35) (e := 89) (K := 2) (j := k) (A := Aah) (len := a.held.length) (cap := Cah) 3 0 _ rfl (by kernel_rfl) (by kernel_rfl) (by kernel_rfl) (fun _ _ h => h) (by kernel_rfl) rfl rfl (by kernel_rfl) (by kernel_rfl) (by kernel_rfl) (by kernel_rfl) hlt hAq7 hq9.1.2 (by kernel_rfl) rfl ?_
 refine cJ [4] [52,55,54,2,3,5] 3 [(52,.v (.agg (pceL x).toArray)),(55,aI (k : Int)),(54,.v (.slice Abh b.held.length Cbh)),(2,.p 0 0),(3,.p 1 0),(5,aI (k : Int))] <| cM (kd := .i64) (T := 35) (e := 89) (K := 2) (j := k) (A := Abh) (len := b.held.length) (cap := Cbh) 8 1 _ rfl (by kernel_rfl) (by kernel_rfl) (by kernel_rfl) (fun _ _ h => h) (by kernel_rfl) rfl rfl (by kernel_rfl) (by kernel_rfl) (by kernel_rfl) (by kernel_rfl) (by omega) hAq8 hq9.2 (by kernel_rfl) rfl ?_
 refine cJ [9] [57,52,2,3,5] 1 [(57,.v (.agg (pceL y).toArray)),(52,.v (.agg (pceL x).toArray)),(2,.p 0 0),(3,.p 1 0),(5,aI (k : Int))] <| kX 10 (.bool (!pceEq x y)) rfl (fun _ _ ww hA => cb hA rfl (by kernel_rfl) (by kernel_rfl) (fZ (by kernel_rfl) (run_neq_PCE x.off x.text y.off y.text ww))) ?_
 refine kZ <| kC (!pceEq x y) (fun h10 => ?_) (fun h10 => ?_)
 have hno := sameL_no hx hy (by simpa using h10)
 refine kQ <| aE [4] [(4,aB false)] <| kR ?_
 exact ⟨[.bool false],by kernel_rfl,fun w' hb hf => ⟨aQ (show (false : Bool) = bJ a b from by first | rfl | (simp [bJ, *]; done) | grind [bJ,dv]),hb⟩⟩
 have hye : pceEq x y = true := by simpa using h10
 refine kK <| kG <| eb 3 [2,3,5] [(2,.p 0 0),(3,.p 1 0),(5,aI (K6.wrap ((k : Int) + 1)))] <| fD (t' := [(2,.p 0 0),(3,.p 1 0),(5,aI ((k : Int) + 1))]) (by rw [show (K6.wrap ((k : Int) + 1)) = ((k : Int) + 1) from ao (by omega) (by omega)]) ?_
 refine aE [2,3,5] [(2,.p 0 0),(3,.p 1 0),(5,aI ((k : Int) + 1))] ?_
 exact ⟨⟨(k + 1),⟨by omega,same_step hx hy hye HK⟩⟩,kF 2 0 [2,3,5],by show a.held.length - (k + 1) < a.held.length - k; omega⟩
 have h6p := of_decide_eq_false h6
 have hge : k = a.held.length := by simp at h6; omega
 have hall := gO hge hlen HK
 refine bY <| kQ <| aE [4] [(4,aB true)] <| kR ?_
 exact ⟨[.bool true],by kernel_rfl,fun w' hb hf => ⟨aQ (show (true : Bool) = bJ a b from by first | rfl | (simp [bJ, *]; done) | grind [bJ,dv]),hb⟩⟩
theorem ysSameConn_c (a : Con) (a_r_heldV : Value) (b : Con) (b_r_heldV : Value) (w : World) (hl_a_r_heldV : Sl w a_r_heldV 2 (a.r.held.map pC)) (hl_b_r_heldV : Sl w b_r_heldV 2 (b.r.held.map pC))  : Calls Tryz.prog 16 #[.agg (a7 a a_r_heldV).toArray, .agg (a7 b b_r_heldV).toArray] w fun e w' => e = .returned (.bool (dX a b)) ∧ Below w.heap.size w w' := by
 obtain ⟨Aarh,Carh,hvarh⟩ := hl_a_r_heldV.form
 rw [List.length_map] at hvarh; subst hvarh
 have hnarh := hl_a_r_heldV.len; rw [List.length_map] at hnarh
 have hqarh := Sl.capLe hl_a_r_heldV
 obtain ⟨Abrh,Cbrh,hvbrh⟩ := hl_b_r_heldV.form
 rw [List.length_map] at hvbrh; subst hvbrh
 have hnbrh := hl_b_r_heldV.len; rw [List.length_map] at hnbrh
 have hqbrh := Sl.capLe hl_b_r_heldV
 refine bL (args := [.agg (a7 a (cS Aarh a Carh)).toArray,.agg (a7 b (cS Abrh b Cbrh)).toArray]) (fn := Tryz.f16) [cH Aarh a Carh,cH Abrh b Cbrh] Tryz.func16 rfl Tryz.ntmps16 rfl (by simp only [List.mem_cons,List.not_mem_nil,or_false,forall_eq_or_imp,forall_eq]; exact ⟨⟨rfl,hl_a_r_heldV⟩,⟨rfl,hl_b_r_heldV⟩⟩) ?_
 refine kQ <| cy [2,3] ⟨[(2,.p 0 0),(3,.p 1 0)],[⟨41,a7 a (cS Aarh a Carh)⟩,⟨41,a7 b (cS Abrh b Cbrh)⟩],[],[cH Aarh a Carh,cH Abrh b Cbrh]⟩ <| kS <| cn ⟨[(4,aB ((bd a.t b.t) && ((a.state == b.state) && ((sndEq a.s b.s) && ((bJ a.r b.r) && ((a.window == b.window) && ((a.most == b.most) && ((optEq a.o b.o) && ((a.timer == b.timer) && (a.tries == b.tries))))))))))],[⟨41,a7 a (cS Aarh a Carh)⟩,⟨41,a7 b (cS Abrh b Cbrh)⟩],[],[cH Aarh a Carh,cH Abrh b Cbrh]⟩ ?_ ?_
 refine kG <| kOS 4 [2,3,6,8] [(2,.p 0 0),(3,.p 1 0),(6,.v (.agg (bt a.t).toArray)),(8,.v (.agg (bt b.t).toArray))] (.bool (bd a.t b.t)) rfl (fun _ _ _ ww hr => cb hr.1 rfl (by kernel_rfl) (by kernel_rfl) (fZ (by kernel_rfl) (eJ a.t.ip a.t.port a.t.my b.t.ip b.t.port b.t.my ww))) ?_
 refine eb 1 [2,3,10] [(2,.p 0 0),(3,.p 1 0),(10,aB (bd a.t b.t))] <| kP 10 (bd a.t b.t) (fun h1 => ?_) (fun h1 => ?_)
 refine eb 7 [2,3,17] [(2,.p 0 0),(3,.p 1 0),(17,aB (a.state == b.state))] <| kP 17 (a.state == b.state) (fun h2 => ?_) (fun h2 => ?_)
 have h2p := cD h2
 refine kOS 4 [2,3,17,19,21] [(2,.p 0 0),(3,.p 1 0),(17,aB true),(19,.v (.agg (ai a.s).toArray)),(21,.v (.agg (ai b.s).toArray))] (.bool (sndEq a.s b.s)) rfl (fun _ _ _ ww hr => cb hr.1 rfl (by kernel_rfl) (by kernel_rfl) (fZ (by kernel_rfl) (run_eql_SND a.s.una a.s.data a.s.sent a.s.fin a.s.finSent a.s.done b.s.una b.s.data b.s.sent b.s.fin b.s.finSent b.s.done ww))) ?_
 refine eb 2 [2,3,24] [(2,.p 0 0),(3,.p 1 0),(24,aB (sndEq a.s b.s))] <| kP 24 (sndEq a.s b.s) (fun h3 => ?_) (fun h3 => ?_)
 refine em 4 [2,3,24,26,28] [(2,.p 0 0),(3,.p 1 0),(24,aB true),(26,.v (.agg (aa a.r (cS Aarh a Carh)).toArray)),(28,.v (.agg (aa b.r (cS Abrh b Cbrh)).toArray))] 40 [.agg (aa a.r (cS Aarh a Carh)).toArray,.agg (aa b.r (cS Abrh b Cbrh)).toArray] (some 29) rfl (bu fun ww hf => ysSameReceiver_c a.r (cS Aarh a Carh) b.r (cS Abrh b Cbrh) ww (hf _ m0) (hf _ m1) ) ?_
 intro _
 refine eb 2 [2,3,31] [(2,.p 0 0),(3,.p 1 0),(31,aB (bJ a.r b.r))] <| kP 31 (bJ a.r b.r) (fun h4 => ?_) (fun h4 => ?_)
 refine eb 7 [2,3,38] [(2,.p 0 0),(3,.p 1 0),(38,aB (a.window == b.window))] <| kP 38 (a.window == b.window) (fun h5 => ?_) (fun h5 => ?_)
 have h5p := cD h5
 refine eb 7 [2,3,45] [(2,.p 0 0),(3,.p 1 0),(45,aB (a.most == b.most))] <| kP 45 (a.most == b.most) (fun h6 => ?_) (fun h6 => ?_)
 have h6p := cD h6
 refine kOS 4 [2,3,45,47,49] [(2,.p 0 0),(3,.p 1 0),(45,aB true),(47,.v (.agg (e5 a.o).toArray)),(49,.v (.agg (e5 b.o).toArray))] (.bool (optEq a.o b.o)) rfl (fun _ _ _ ww hr => cb hr.1 rfl (by kernel_rfl) (by kernel_rfl) (fZ (by kernel_rfl) (run_eql_OPT a.o.mss a.o.scale a.o.sack a.o.stamp a.o.val a.o.echo b.o.mss b.o.scale b.o.sack b.o.stamp b.o.val b.o.echo ww))) ?_
 refine eb 2 [2,3,52] [(2,.p 0 0),(3,.p 1 0),(52,aB (optEq a.o b.o))] <| kP 52 (optEq a.o b.o) (fun h7 => ?_) (fun h7 => ?_)
 refine eb 7 [2,3,59] [(2,.p 0 0),(3,.p 1 0),(59,aB (a.timer == b.timer))] <| kP 59 (a.timer == b.timer) (fun h8 => ?_) (fun h8 => ?_)
 have h8p := cD h8
 refine aE [4] [(4,aB (a.tries == b.tries))] ?_
 show Wk _ _
 try rw [h1]
 try rw [h2]
 try rw [h3]
 try rw [h4]
 try rw [h5]
 try rw [h6]
 try rw [h7]
 try rw [h8]
 exact kF 2 0 [4]
 have h8p := cA h8
 refine aE [4] [(4,aB false)] ?_
 show Wk _ _
 try rw [h1]
 try rw [h2]
 try rw [h3]
 try rw [h4]
 try rw [h5]
 try rw [h6]
 try rw [h7]
 try rw [h8]
 exact kF 2 0 [4]
 refine aE [4] [(4,aB false)] ?_
 show Wk _ _
 try rw [h1]
 try rw [h2]
 try rw [h3]
 try rw [h4]
 try rw [h5]
 try rw [h6]
 try rw [h7]
 exact kF 2 0 [4]
 have h6p := cA h6
 refine aE [4] [(4,aB false)] ?_
 show Wk _ _
 try rw [h1]
 try rw [h2]
 try rw [h3]
 try rw [h4]
 try rw [h5]
 try rw [h6]
 exact kF 2 0 [4]
 have h5p := cA h5
 refine aE [4] [(4,aB false)] ?_
 show Wk _ _
 try rw [h1]
 try rw [h2]
 try rw [h3]
 try rw [h4]
 try rw [h5]
 exact kF 2 0 [4]
 refine aE [4] [(4,aB false)] ?_
 show Wk _ _
 try rw [h1]
 try rw [h2]
 try rw [h3]
 try rw [h4]
 exact kF 2 0 [4]
 refine aE [4] [(4,aB false)] ?_
 show Wk _ _
 try rw [h1]
 try rw [h2]
 try rw [h3]
 exact kF 2 0 [4]
 have h2p := cA h2
 refine aE [4] [(4,aB false)] ?_
 show Wk _ _
 try rw [h1]
 try rw [h2]
 exact kF 2 0 [4]
 refine aE [4] [(4,aB false)] ?_
 show Wk _ _
 try rw [h1]
 exact kF 2 0 [4]
 refine kR ?_
 exact ⟨[.bool ((bd a.t b.t) && ((a.state == b.state) && ((sndEq a.s b.s) && ((bJ a.r b.r) && ((a.window == b.window) && ((a.most == b.most) && ((optEq a.o b.o) && ((a.timer == b.timer) && (a.tries == b.tries)))))))))],by kernel_rfl,fun w' hb hf => ⟨aQ (show ((bd a.t b.t) && ((a.state == b.state) && ((sndEq a.s b.s) && ((bJ a.r b.r) && ((a.window == b.window) && ((a.most == b.most) && ((optEq a.o b.o) && ((a.timer == b.timer) && (a.tries == b.tries)))))))) : Bool) = dX a b from by first | rfl | (simp [dX, *]; done) | grind [dX,dv]),hb⟩⟩
theorem l19Fin_c (k : Int) (w : World)  : Calls Tryz.prog 68 #[iI k] w fun e w' => e = .returned (.bool (decide (k ≠ 1 ∧ k ≠ 4))) ∧ Below w.heap.size w w' := by
 refine bL (args := [iI k]) (fn := Tryz.f68) [] Tryz.func68 rfl Tryz.ntmps68 rfl (by simp) ?_
 refine kQ <| cy [0] ⟨[(0,aI k)],[],[],[]⟩ <| kS <| cn ⟨[(2,aB ((k != 1) && (k != 4)))],[],[],[]⟩ ?_ ?_
 refine kG <| eb 3 [0,5] [(0,aI k),(5,aB (k != 1))] <| kP 5 (k != 1) (fun h1 => ?_) (fun h1 => ?_)
 have h1p := neT h1
 refine aE [2] [(2,aB (k != 4))] ?_
 show Wk _ _
 try rw [h1]
 exact kF 0 0 [2]
 have h1p := neF h1
 refine aE [2] [(2,aB false)] ?_
 show Wk _ _
 try rw [h1]
 exact kF 0 0 [2]
 refine kR ?_
 exact ⟨[.bool ((k != 1) && (k != 4))],by kernel_rfl,fun w' hb hf => ⟨aQ (show ((k != 1) && (k != 4) : Bool) = decide (k ≠ 1 ∧ k ≠ 4) from by first | rfl | (simp [*]; done) | (simp [*]; omega) | grind [cu]),hb⟩⟩
@[simp] theorem inB18_1 : cG 1 1 8 = true := rfl
@[simp] theorem inB18_2 : cG 2 1 8 = true := rfl
@[simp] theorem inB18_3 : cG 3 1 8 = true := rfl
@[simp] theorem inB18_4 : cG 4 1 8 = true := rfl
@[simp] theorem inB18_5 : cG 5 1 8 = true := rfl
@[simp] theorem inB18_6 : cG 6 1 8 = true := rfl
@[simp] theorem inB18_7 : cG 7 1 8 = true := rfl
@[simp] theorem inB18_8 : cG 8 1 8 = true := rfl
theorem e0 (c : Con) (rV : Value) (w : World) (hZ : Sl w rV 2 (c.r.held.map pC)) (hm : ∀ p ∈ c.r.held, p.text.size ≤ 1048576) (hsz : c.r.data.size ≤ 4611686018427387904) : Calls Tryz.prog 37 #[.agg (a7 c rV).toArray] w fun e w' => e = .returned (.bool (bv c)) ∧ Below w.heap.size w w' := by
 obtain ⟨Z,Y,hY⟩ := hZ.form
 rw [List.length_map] at hY; subst hY
 have hJ := hZ.len; rw [List.length_map] at hJ
 have hqcrh := Sl.capLe hZ
 refine bL (args := [.agg (a7 c (cS Z c Y)).toArray]) (fn := Tryz.f37) [cH Z c Y] Tryz.func37 rfl Tryz.ntmps37 rfl (by simp only [List.mem_cons,List.not_mem_nil,or_false,forall_eq_or_imp,forall_eq]; exact ⟨rfl,hZ⟩) ?_
 refine kQ <| cy [1] ⟨[(1,.p 0 0)],[⟨41,a7 c (cS Z c Y)⟩],[],[cH Z c Y]⟩ <| kS <| kS <| cn ⟨[(1,.p 0 0),(52,aB ((!(eD c.t)) || ((!(aG c.s)) || ((!(rO c.r)) || ((!(c7 c.o)) || ((!(cG c.state 1 8)) || ((!(cG c.window 0 c.most)) || ((decide (c.most > 1073725440)) || (!(cG c.tries 0 3))))))))))],[⟨41,a7 c (cS Z c Y)⟩],[],[cH Z c Y]⟩ ?_ ?_
 refine kG <| em 2 [1,7] [(1,.p 0 0),(7,.v (.agg (bt c.t).toArray))] 64 [.agg (bt c.t).toArray] (some 8) rfl (bu fun ww hf => sTupleOk_c c.t.ip c.t.port c.t.my ww ) ?_
 intro _
 refine eb 2 [1,10] [(1,.p 0 0),(10,aB (!(eD c.t)))] <| kP 10 (!(eD c.t)) (fun h1 => ?_) (fun h1 => ?_)
 have h1n := cd h1
 refine aE [1,52] [(1,.p 0 0),(52,aB true)] ?_
 show Wk _ _
 try rw [h1]
 exact kF 1 0 [1,52]
 have h1n := bS h1
 refine em 2 [1,10,12] [(1,.p 0 0),(10,aB false),(12,.v (.agg (ai c.s).toArray))] 65 [.agg (ai c.s).toArray] (some 13) rfl (bu fun ww hf => en c.s.una c.s.data c.s.sent c.s.fin c.s.finSent c.s.done ww ) ?_
 intro _
 refine eb 3 [1,16] [(1,.p 0 0),(16,aB (!(aG c.s)))] <| kP 16 (!(aG c.s)) (fun h2 => ?_) (fun h2 => ?_)
 have h2n := cd h2
 refine aE [1,52] [(1,.p 0 0),(52,aB true)] ?_
 show Wk _ _
 try rw [h1]
 try rw [h2]
 exact kF 1 0 [1,52]
 have h2n := bS h2
 refine em 2 [1,16,18] [(1,.p 0 0),(16,aB false),(18,.v (.agg (aa c.r (cS Z c Y)).toArray))] 66 [.agg (aa c.r (cS Z c Y)).toArray] (some 19) rfl (bu fun ww hf => gv c.r (cS Z c Y) ww (hf _ m0) (by assumption) (by omega)) ?_
 intro _
 refine eb 3 [1,22] [(1,.p 0 0),(22,aB (!(rO c.r)))] <| kP 22 (!(rO c.r)) (fun h3 => ?_) (fun h3 => ?_)
 have h3n := cd h3
 refine aE [1,52] [(1,.p 0 0),(52,aB true)] ?_
 show Wk _ _
 try rw [h1]
 try rw [h2]
 try rw [h3]
 exact kF 1 0 [1,52]
 have h3n := bS h3
 refine em 2 [1,22,24] [(1,.p 0 0),(22,aB false),(24,.v (.agg (e5 c.o).toArray))] 67 [.agg (e5 c.o).toArray] (some 25) rfl (bu fun ww hf => gT c.o.mss c.o.scale c.o.sack c.o.stamp c.o.val c.o.echo ww ) ?_
 intro _
 refine eb 3 [1,28] [(1,.p 0 0),(28,aB (!(c7 c.o)))] <| kP 28 (!(c7 c.o)) (fun h4 => ?_) (fun h4 => ?_)
 have h4n := cd h4
 refine aE [1,52] [(1,.p 0 0),(52,aB true)] ?_
 show Wk _ _
 try rw [h1]
 try rw [h2]
 try rw [h3]
 try rw [h4]
 exact kF 1 0 [1,52]
 have h4n := bS h4
 refine em 2 [1,28,30] [(1,.p 0 0),(28,aB false),(30,aI c.state)] 63 [iI c.state,iI 1,iI 8] (some 31) rfl (cz fun ww hf => dA c.state 1 8 ww ) ?_
 intro _
 refine eb 3 [1,34] [(1,.p 0 0),(34,aB (!(cG c.state 1 8)))] <| kP 34 (!(cG c.state 1 8)) (fun h5 => ?_) (fun h5 => ?_)
 have h5n := cd h5
 refine aE [1,52] [(1,.p 0 0),(52,aB true)] ?_
 show Wk _ _
 try rw [h1]
 try rw [h2]
 try rw [h3]
 try rw [h4]
 try rw [h5]
 exact kF 1 0 [1,52]
 have h5n := bS h5
 refine em 4 [1,34,36,38] [(1,.p 0 0),(34,aB false),(36,aI c.window),(38,aI c.most)] 63 [iI c.window,iI 0,iI c.most] (some 39) rfl (cz fun ww hf => dA c.window 0 c.most ww ) ?_
 intro _
 refine eb 3 [1,42] [(1,.p 0 0),(42,aB (!(cG c.window 0 c.most)))] <| kP 42 (!(cG c.window 0 c.most)) (fun h6 => ?_) (fun h6 => ?_)
 have h6n := cd h6
 refine aE [1,52] [(1,.p 0 0),(52,aB true)] ?_
 show Wk _ _
 try rw [h1]
 try rw [h2]
 try rw [h3]
 try rw [h4]
 try rw [h5]
 try rw [h6]
 exact kF 1 0 [1,52]
 have h6n := bS h6
 refine eb 5 [1,47] [(1,.p 0 0),(47,aB (decide (c.most > 1073725440)))] <| kP 47 (decide (c.most > 1073725440)) (fun h7 => ?_) (fun h7 => ?_)
 have h7p := of_decide_eq_true h7
 refine aE [1,52] [(1,.p 0 0),(52,aB true)] ?_
 show Wk _ _
 try rw [h1]
 try rw [h2]
 try rw [h3]
 try rw [h4]
 try rw [h5]
 try rw [h6]
 try rw [h7]
 exact kF 1 0 [1,52]
 have h7p := of_decide_eq_false h7
 refine em 2 [1,47,49] [(1,.p 0 0),(47,aB false),(49,aI c.tries)] 63 [iI c.tries,iI 0,iI 3] (some 50) rfl (cz fun ww hf => dA c.tries 0 3 ww ) ?_
 intro _
 refine aE [1,52] [(1,.p 0 0),(52,aB (!(cG c.tries 0 3)))] ?_
 show Wk _ _
 try rw [h1]
 try rw [h2]
 try rw [h3]
 try rw [h4]
 try rw [h5]
 try rw [h6]
 try rw [h7]
 exact kF 1 0 [1,52]
 refine kC ((!(eD c.t)) || ((!(aG c.s)) || ((!(rO c.r)) || ((!(c7 c.o)) || ((!(cG c.state 1 8)) || ((!(cG c.window 0 c.most)) || ((decide (c.most > 1073725440)) || (!(cG c.tries 0 3))))))))) (fun h8 => ?_) (fun h8 => ?_)
 refine kQ <| aE [2] [(2,aB false)] <| kR ?_
 exact ⟨[.bool false],by kernel_rfl,fun w' hb hf => ⟨aQ (show (false : Bool) = bv c from by first | rfl | (simp [bv,e8,eQ,dy, *]; done) | (clear hm hf hb; simp_all [bv,e8,eQ,dy]; done) | grind [bv,e8,eQ,dy,cG]),hb⟩⟩
 have h8l := gR h8
 have h8ln := bS h8l
 have h8r := gI h8
 have h8rl := gR h8r
 have h8rln := bS h8rl
 have h8rr := gI h8r
 have h8rrl := gR h8rr
 have h8rrln := bS h8rrl
 have h8rrr := gI h8rr
 have h8rrrl := gR h8rrr
 have h8rrrln := bS h8rrrl
 have h8rrrr := gI h8rrr
 have h8rrrrl := gR h8rrrr
 have h8rrrrln := bS h8rrrrl
 have h8rrrrr := gI h8rrrr
 have h8rrrrrl := gR h8rrrrr
 have h8rrrrrln := bS h8rrrrrl
 have h8rrrrrr := gI h8rrrrr
 have h8rrrrrrl := gR h8rrrrrr
 have h8rrrrrrr := gI h8rrrrrr
 have h8rrrrrrrn := bS h8rrrrrrr
 refine kK <| kQ <| aE [1,3] [(1,.p 0 0),(3,aI 3)] <| kS <| kQ <| aE [1,3,55] [(1,.p 0 0),(3,aI 3),(55,aB (c.state == 7))] ?_
 refine cn ⟨[(1,.p 0 0),(3,aI (if (c.state == 7) = true then 4 else 3))],[⟨41,a7 c (cS Z c Y)⟩],[],[cH Z c Y]⟩ ?_ ?_
 refine kC (c.state == 7) (fun h9 => ?_) (fun h9 => ?_)
 have h9p := cD h9
 refine kG <| aE [1,3] [(1,.p 0 0),(3,aI 4)] ?_
 show Wk _ _; rw [h9]; exact kF 1 0 [1,3]
 have h9p := cA h9
 refine kK ?_
 show Wk _ _; rw [h9]; exact kF 1 0 [1,3]
 refine kS <| kQ <| em 3 [1,57,58] [(1,.p 0 0),(57,aI c.timer),(58,aI (if (c.state == 7) = true then 4 else 3))] 63 [iI c.timer,iI 0,iI (if (c.state == 7) = true then 4 else 3)] (some 59) rfl (cz fun ww hf => dA c.timer 0 (if (c.state == 7) = true then 4 else 3) ww ) ?_
 intro _
 refine aE [1,60] [(1,.p 0 0),(60,aB (!(cG c.timer 0 (if (c.state == 7) = true then 4 else 3))))] <| kC (!(cG c.timer 0 (if (c.state == 7) = true then 4 else 3))) (fun h10 => ?_) (fun h10 => ?_)
 have h10n := cd h10
 have h10np := h10n; simp only [beq_iff_eq,bne_iff_ne,beq_eq_false_iff_ne,bne_eq_false_iff_eq,ne_eq,cu] at h10np
 refine kQ <| aE [2] [(2,aB false)] <| kR ?_
 exact ⟨[.bool false],by kernel_rfl,fun w' hb hf => ⟨aQ (show (false : Bool) = bv c from by first | rfl | (simp [bv,e8,eQ,dy, *]; done) | (clear hm hf hb; simp_all [bv,e8,eQ,dy]; done) | grind [bv,e8,eQ,dy,cG]),hb⟩⟩
 have h10n := bS h10
 have h10np := h10n; simp only [beq_iff_eq,bne_iff_ne,beq_eq_false_iff_ne,bne_eq_false_iff_eq,ne_eq,cu] at h10np
 refine kK <| kS <| kQ <| aE [1,63] [(1,.p 0 0),(63,aB (c.state == 8))] ?_
 refine kC (c.state == 8) (fun h11 => ?_) (fun h11 => ?_)
 have h11p := cD h11
 refine kQ <| aE [2] [(2,aB true)] <| kR ?_
 exact ⟨[.bool true],by kernel_rfl,fun w' hb hf => ⟨aQ (show (true : Bool) = bv c from by first | rfl | (simp [bv,e8,eQ,dy, *]; done) | (clear hm hf hb; simp_all [bv,e8,eQ,dy]; done) | grind [bv,e8,eQ,dy,cG]),hb⟩⟩
 have h11p := cA h11
 refine kK <| kS <| cn ⟨[(1,.p 0 0),(4,aB ((c.state == 3) || (c.state == 7)))],[⟨41,a7 c (cS Z c Y)⟩],[],[cH Z c Y]⟩ ?_ ?_
 refine kG <| eb 4 [1,67] [(1,.p 0 0),(67,aB (c.state == 3))] <| kP 67 (c.state == 3) (fun h12 => ?_) (fun h12 => ?_)
 have h12p := cD h12
 refine aE [1,4] [(1,.p 0 0),(4,aB true)] ?_
 show Wk _ _
 try rw [h12]
 exact kF 1 0 [1,4]
 have h12p := cA h12
 refine aE [1,4] [(1,.p 0 0),(4,aB (c.state == 7))] ?_
 show Wk _ _
 try rw [h12]
 exact kF 1 0 [1,4]
 refine kS <| cn ⟨[(1,.p 0 0),(4,aB ((c.state == 3) || (c.state == 7))),(5,aB ((c.state == 4) || (decide (c.state ≥ 5))))],[⟨41,a7 c (cS Z c Y)⟩],[],[cH Z c Y]⟩ ?_ ?_
 refine kG <| eb 4 [1,4,75] [(1,.p 0 0),(4,aB ((c.state == 3) || (c.state == 7))),(75,aB (c.state == 4))] <| kP 75 (c.state == 4) (fun h13 => ?_) (fun h13 => ?_)
 have h13p := cD h13
 refine aE [1,4,5] [(1,.p 0 0),(4,aB ((c.state == 3) || (c.state == 7))),(5,aB true)] ?_
 show Wk _ _
 try rw [h13]
 exact kF 1 0 [1,4,5]
 have h13p := cA h13
 refine aE [1,4,5] [(1,.p 0 0),(4,aB ((c.state == 3) || (c.state == 7))),(5,aB (decide (c.state ≥ 5)))] ?_
 show Wk _ _
 try rw [h13]
 exact kF 1 0 [1,4,5]
 refine kS <| cn ⟨[(2,aB ((c.s.fin == (decide (c.state ≠ 1 ∧ c.state ≠ 4))) && ((c.s.done == ((c.state == 3) || (c.state == 7))) && (c.r.done == ((c.state == 4) || (decide (c.state ≥ 5)))))))],[⟨41,a7 c (cS Z c Y)⟩],[],[cH Z c Y]⟩ ?_ ?_
 refine bP [] (by kernel_rfl) (fun ρ σ => ?_)
 refine cJ [0,1,2,3,4] [84,82,1,4,5] 17 [(84,aI c.state),(82,aB c.s.fin),(1,.p 0 0),(4,aB ((c.state == 3) || (c.state == 7))),(5,aB ((c.state == 4) || (decide (c.state ≥ 5))))] <| kA [5] <| cE 5 68 [iI c.state] (some 85) rfl (bu fun ww hf => l19Fin_c c.state ww ) ?_
 intro _
 refine cJ [6,7] [87,1,4,5] 14 [(87,aB (c.s.fin == (decide (c.state ≠ 1 ∧ c.state ≠ 4)))),(1,.p 0 0),(4,aB ((c.state == 3) || (c.state == 7))),(5,aB ((c.state == 4) || (decide (c.state ≥ 5))))] <| kY 87 (c.s.fin == (decide (c.state ≠ 1 ∧ c.state ≠ 4))) (fun h14 => ?_) (fun h14 => ?_)
 have h14p := cD h14
 refine cJ [8,9,10,11,12,13,14] [94,1,5] 7 [(94,aB (c.s.done == ((c.state == 3) || (c.state == 7)))),(1,.p 0 0),(5,aB ((c.state == 4) || (decide (c.state ≥ 5))))] <| kY 94 (c.s.done == ((c.state == 3) || (c.state == 7))) (fun h15 => ?_) (fun h15 => ?_)
 have h15p := cD h15
 refine cJ [15,16,17,18,19,20,21] [2] 0 [(2,aB (c.r.done == ((c.state == 4) || (decide (c.state ≥ 5)))))] <| kZ ?_
 show Wk _ _
 try rw [h14]
 try rw [h15]
 exact kF 1 0 [2]
 have h15p := cA h15
 refine cJ [15,16,17,18,19,20,21] [2] 0 [(2,aB false)] <| kZ ?_
 show Wk _ _
 try rw [h14]
 try rw [h15]
 exact kF 1 0 [2]
 have h14p := cA h14
 refine cJ [8,9,10,11,12,13,14,15,16,17,18,19,20,21] [2] 0 [(2,aB false)] <| kZ ?_
 show Wk _ _
 try rw [h14]
 exact kF 1 0 [2]
 refine kR ?_
 exact ⟨[.bool ((c.s.fin == (decide (c.state ≠ 1 ∧ c.state ≠ 4))) && ((c.s.done == ((c.state == 3) || (c.state == 7))) && (c.r.done == ((c.state == 4) || (decide (c.state ≥ 5))))))],by kernel_rfl,fun w' hb hf => ⟨aQ (show ((c.s.fin == (decide (c.state ≠ 1 ∧ c.state ≠ 4))) && ((c.s.done == ((c.state == 3) || (c.state == 7))) && (c.r.done == ((c.state == 4) || (decide (c.state ≥ 5))))) : Bool) = bv c from by first | rfl | (simp [bv,e8,eQ,dy, *]; done) | (clear hm hf hb; simp_all [bv,e8,eQ,dy]; done) | grind [bv,e8,eQ,dy,cG]),hb⟩⟩
theorem ysWaits_c (c : Con) (rV : Value) (w : World) (hZ : Sl w rV 2 (c.r.held.map pC)) (hm : ∀ p ∈ c.r.held, p.text.size ≤ 1048576) (hsz : c.r.data.size ≤ 4611686018427387904) : Calls Tryz.prog 100 #[.agg (a7 c rV).toArray] w fun e w' => e = .returned (.bool (waits c)) ∧ Below w.heap.size w w' := by
 obtain ⟨Z,Y,hY⟩ := hZ.form
 rw [List.length_map] at hY; subst hY
 have hJ := hZ.len; rw [List.length_map] at hJ
 have hqcrh := Sl.capLe hZ
 refine bL (args := [.agg (a7 c (cS Z c Y)).toArray]) (fn := Tryz.f100) [cH Z c Y] Tryz.func100 rfl Tryz.ntmps100 rfl (by simp only [List.mem_cons,List.not_mem_nil,or_false,forall_eq_or_imp,forall_eq]; exact ⟨rfl,hZ⟩) ?_
 refine kQ <| cy [1] ⟨[(1,.p 0 0)],[⟨41,a7 c (cS Z c Y)⟩],[],[cH Z c Y]⟩ <| kS <| cn ⟨[(2,aB ((bv c) && ((c.state == 7) || ((c.state != 8) && (gd c)))))],[⟨41,a7 c (cS Z c Y)⟩],[],[cH Z c Y]⟩ ?_ ?_
 refine kG <| em 1 [1,3] [(1,.p 0 0),(3,.v (.agg (a7 c (cS Z c Y)).toArray))] 37 [.agg (a7 c (cS Z c Y)).toArray] (some 4) rfl (bu fun ww hf => e0 c (cS Z c Y) ww (hf _ m0) (by assumption) (by omega)) ?_
 intro _
 refine eb 1 [1,5] [(1,.p 0 0),(5,aB (bv c))] <| kP 5 (bv c) (fun h1 => ?_) (fun h1 => ?_)
 refine eb 4 [1,5,9] [(1,.p 0 0),(5,aB true),(9,aB (c.state == 7))] <| kP 9 (c.state == 7) (fun h2 => ?_) (fun h2 => ?_)
 have h2p := cD h2
 refine aE [2] [(2,aB true)] ?_
 show Wk _ _
 try rw [h1]
 try rw [h2]
 exact kF 1 0 [2]
 have h2p := cA h2
 refine eb 4 [1,5,9,13] [(1,.p 0 0),(5,aB true),(9,aB false),(13,aB (c.state != 8))] <| kP 13 (c.state != 8) (fun h3 => ?_) (fun h3 => ?_)
 have h3p := neT h3
 refine em 1 [5,9,13,14] [(5,aB true),(9,aB false),(13,aB true),(14,.v (.agg (a7 c (cS Z c Y)).toArray))] 120 [.agg (a7 c (cS Z c Y)).toArray] (some 15) rfl (bu fun ww hf => ysUnsent_c c (cS Z c Y) ww ) ?_
 intro _
 refine aE [2] [(2,aB (gd c))] ?_
 show Wk _ _
 try rw [h1]
 try rw [h2]
 try rw [h3]
 exact kF 1 0 [2]
 have h3p := neF h3
 refine aE [2] [(2,aB false)] ?_
 show Wk _ _
 try rw [h1]
 try rw [h2]
 try rw [h3]
 exact kF 1 0 [2]
 refine aE [2] [(2,aB false)] ?_
 show Wk _ _
 try rw [h1]
 exact kF 1 0 [2]
 refine kR ?_
 exact ⟨[.bool ((bv c) && ((c.state == 7) || ((c.state != 8) && (gd c))))],by kernel_rfl,fun w' hb hf => ⟨aQ (show ((bv c) && ((c.state == 7) || ((c.state != 8) && (gd c))) : Bool) = waits c from by first | rfl | (simp [waits, *]; done) | grind [waits]),hb⟩⟩
def ba (x : Tab) (x_connsV : Value) (x_waitingV : Value) : List Value := [x_connsV, x_waitingV]
theorem gJ (t : Tab) (t_connsV : Value) (t_waitingV : Value) (u : Tup) (w : World) (hl_t_connsV : Sl w t_connsV 25 (t.conns.map az)) (hh_t_connsV : ∀ x ∈ t.conns, Sl w x.2 2 (x.1.r.held.map pC)) (hl_t_waitingV : Sl w t_waitingV 3 (t.waiting.map a5))  : Calls Tryz.prog 29 #[.agg (ba t t_connsV t_waitingV).toArray, .agg (bt u).toArray] w fun e w' => e = .returned (iI (aK t u)) ∧ Below w.heap.size w w' := by
 obtain ⟨Atc,Ctc,hvtc⟩ := hl_t_connsV.form
 rw [List.length_map] at hvtc; subst hvtc
 have hntc := hl_t_connsV.len; rw [List.length_map] at hntc
 have hqtc := Sl.capLe hl_t_connsV
 obtain ⟨Atw,Ctw,hvtw⟩ := hl_t_waitingV.form
 rw [List.length_map] at hvtw; subst hvtw
 have hntw := hl_t_waitingV.len; rw [List.length_map] at hntw
 have hqtw := Sl.capLe hl_t_waitingV
 refine bL (args := [.agg (ba t (.slice Atc t.conns.length Ctc) (.slice Atw t.waiting.length Ctw)).toArray,.agg (bt u).toArray]) (fn := Tryz.f29) [aX (.slice Atc t.conns.length Ctc) 25 (t.conns.map az),bi t.conns,aX (.slice Atw t.waiting.length Ctw) 3 (t.waiting.map a5)] Tryz.func29 rfl Tryz.ntmps29 rfl (by simp only [List.mem_cons,List.not_mem_nil,or_false,forall_eq_or_imp,forall_eq]; exact ⟨⟨rfl,hl_t_connsV⟩,⟨rfl,hh_t_connsV⟩,⟨rfl,hl_t_waitingV⟩⟩) ?_
 refine kQ <| cy [2,3] ⟨[(2,.p 0 0),(3,.p 1 0)],[⟨27,ba t (.slice Atc t.conns.length Ctc) (.slice Atw t.waiting.length Ctw)⟩,⟨32,bt u⟩],[],[aX (.slice Atc t.conns.length Ctc) 25 (t.conns.map az),bi t.conns,aX (.slice Atw t.waiting.length Ctw) 3 (t.waiting.map a5)]⟩ <| kS <| kQ <| aY [2,3,5] [(5,aI 0)] ?_
 refine ap <| bo (α := {x : Nat // (fun (k : Nat) => k ≤ t.conns.length ∧ ∀ (i : Nat) (h' : CV),i < k → t.conns[i]? = some h' → bd h'.1.t u = false) x}) (fun x => (fun (k : Nat) => (⟨[(2,.p 0 0),(3,.p 1 0),(5,aI (k : Int))],[⟨27,ba t (.slice Atc t.conns.length Ctc) (.slice Atw t.waiting.length Ctw)⟩,⟨32,bt u⟩],[],[aX (.slice Atc t.conns.length Ctc) 25 (t.conns.map az),bi t.conns,aX (.slice Atw t.waiting.length Ctw) 3 (t.waiting.map a5)]⟩ : St)) x.1) (fun x => t.conns.length - x.1) ⟨(0),⟨Nat.zero_le _,fun i x hi => by omega⟩⟩ (kF 2 0 [2,3,5]) ?_
 rintro ⟨k,hk,HK⟩
 try dsimp only
 try dsimp only at hk HK
 refine kS <| kQ <| aY [2,3,5,10] [(10,aB (decide ((k : Int) < ((t.conns.length : Nat) : Int))))] <| kC (decide ((k : Int) < ((t.conns.length : Nat) : Int))) (fun h1 => ?_) (fun h1 => ?_)
 have h1p := of_decide_eq_true h1
 have hlt : k < t.conns.length := by simpa using h1
 obtain ⟨x0,hx⟩ : ∃ x,t.conns[k]? = some x := ⟨_,List.getElem?_eq_getElem hlt⟩
 obtain ⟨x,xa,xc,rfl⟩ := fz (hh_t_connsV x0 (List.mem_of_getElem? hx))
 refine kK <| kS <| ap <| kS <| dx ?_
 refine dr (K := 25) (j := k) [iI x.t.ip,iI x.t.port,iI x.t.my,iI x.state,iI x.s.una,.string x.s.data,iI x.s.sent,.bool x.s.fin,.bool x.s.finSent,.bool x.s.done,iI x.r.next,.string x.r.data,.slice xa x.r.held.length xc,iI x.r.fin,.bool x.r.done,iI x.window,iI x.most,iI x.o.mss,iI x.o.scale,.bool x.o.sack,.bool x.o.stamp,iI x.o.val,iI x.o.echo,iI x.timer,iI x.tries] (aX (.slice Atc t.conns.length Ctc) 25 (t.conns.map az)) (fun _ _ h => h) (by simp) (fun w h => h) (fun b h => h) (by simp only [List.getElem?_map,hx]; rfl) (fun bq2 offq2 hAq2 => ?_)
 refine ca [] (by kernel_rfl) (fun ρ σ hq3 => ?_)
 refine cQ [0,1,2,6] [19,15,14,2,3,5] 4 [(19,.v (.agg (bt u).toArray)),(15,aI (k : Int)),(14,.v (.slice Atc t.conns.length Ctc))] <| cM (kd := .i64) (T := 24) (e := 41) (K := 25) (j := k) (A := Atc) (len := t.conns.length) (cap := Ctc) 3 0 _ rfl (by kernel_rfl) (by kernel_rfl) (by kernel_rfl) (fun _ _ h => h) (by kernel_rfl) rfl rfl (by kernel_rfl) (by kernel_rfl) (by kernel_rfl) (by kernel_rfl) hlt hAq2 hq3.2 (by kernel_rfl) rfl ?_
 refine cQ [4,5] [18,19,2,3,5] 1 [(18,.v (.agg (bt x.t).toArray))] <| kX 7 (.bool (bd x.t u)) rfl (fun _ _ ww hA => cb hA rfl (by kernel_rfl) (by kernel_rfl) (fZ (by kernel_rfl) (eJ x.t.ip x.t.port x.t.my u.ip u.port u.my ww))) ?_
 refine kZ <| kC (bd x.t u) (fun h4 => ?_) (fun h4 => ?_)
 have hfd := findConn_eq hx (by exact h4) HK
 refine kQ <| aE [4] [(4,aI (k : Int))] <| kR ?_
 exact ⟨[iI (k : Int)],by kernel_rfl,fun w' hb hf => ⟨eW (show ((k : Int) : Int) = aK t u from by first | exact hfd.symm | exact hfn.symm),hb⟩⟩
 have hq : bd x.t u = false := by exact h4
 refine kK <| kG <| dl 3 [2,3,5] [(5,aI (K6.wrap ((k : Int) + 1)))] <| bE [2,3,5] [(5,aI (K6.wrap ((k : Int) + 1)))] [(5,aI ((k : Int) + 1))] (by rw [show (K6.wrap ((k : Int) + 1)) = ((k : Int) + 1) from ao (by omega) (by omega)]) (by kernel_rfl) ?_
 refine aY [2,3,5] [] ?_
 exact ⟨⟨(k + 1),⟨by omega,no_step (p := fun c : CV => bd c.1.t u) hx hq HK⟩⟩,kF 2 0 [2,3,5],by show t.conns.length - (k + 1) < t.conns.length - k; omega⟩
 have h1p := of_decide_eq_false h1
 have hge : k = t.conns.length := by simp at h1; omega
 have hfn := findConn_no hge HK
 refine bY <| kQ <| aE [4] [(4,aI (-1))] <| kR ?_
 exact ⟨[iI (-1)],by kernel_rfl,fun w' hb hf => ⟨eW (show ((-1) : Int) = aK t u from by first | exact hfd.symm | exact hfn.symm),hb⟩⟩
theorem yFindConn1_c (c : Con) (V : Value) (u : Tup) (g : Nat) (w : World) (hcell : (bI g 32 [iI u.ip, iI u.port, iI u.my]).p w) : Calls Tryz.prog 39 #[.agg #[iI c.t.ip, iI c.t.port, iI c.t.my, iI c.state, iI c.s.una, .string c.s.data, iI c.s.sent, .bool c.s.fin, .bool c.s.finSent, .bool c.s.done, iI c.r.next, .string c.r.data, V, iI c.r.fin, .bool c.r.done, iI c.window, iI c.most, iI c.o.mss, iI c.o.scale, .bool c.o.sack, .bool c.o.stamp, iI c.o.val, iI c.o.echo, iI c.timer, iI c.tries], gP g] w fun e w' => e = .returned (.bool (bd c.t u)) ∧ Below w.heap.size w w' := by
 refine bL (args := [.agg #[iI c.t.ip,iI c.t.port,iI c.t.my,iI c.state,iI c.s.una,.string c.s.data,iI c.s.sent,.bool c.s.fin,.bool c.s.finSent,.bool c.s.done,iI c.r.next,.string c.r.data,V,iI c.r.fin,.bool c.r.done,iI c.window,iI c.most,iI c.o.mss,iI c.o.scale,.bool c.o.sack,.bool c.o.stamp,iI c.o.val,iI c.o.echo,iI c.timer,iI c.tries],gP g]) (fn := Tryz.f39) [bI g 32 [iI u.ip,iI u.port,iI u.my]] Tryz.func39 rfl Tryz.ntmps39 rfl (by simp only [List.mem_cons,List.not_mem_nil,or_false,forall_eq_or_imp,forall_eq]; exact ⟨rfl,hcell⟩) ?_
 refine kQ <| cy [1,2] ⟨[(1,aP g),(2,.p 0 0)],[⟨41,[iI c.t.ip,iI c.t.port,iI c.t.my,iI c.state,iI c.s.una,.string c.s.data,iI c.s.sent,.bool c.s.fin,.bool c.s.finSent,.bool c.s.done,iI c.r.next,.string c.r.data,V,iI c.r.fin,.bool c.r.done,iI c.window,iI c.most,iI c.o.mss,iI c.o.scale,.bool c.o.sack,.bool c.o.stamp,iI c.o.val,iI c.o.echo,iI c.timer,iI c.tries]⟩],[],[bI g 32 [iI u.ip,iI u.port,iI u.my]]⟩ <| kQ <| fS 2 [1,5] [(5,.v (.agg (bt c.t).toArray))] (.agg (bt u).toArray) rfl (fun _ _ _ ww hr => ldK_run (off := 0) (g := g) (T := 32) (cs := [iI u.ip,iI u.port,iI u.my]) hr rfl (by kernel_rfl) (by simp) (by kernel_rfl)) ?_
 refine fS 0 [5,6] [] (.bool (bd c.t u)) rfl (fun _ _ _ ww hr => cb hr.1 rfl (by kernel_rfl) (by kernel_rfl) (fZ (by kernel_rfl) (eJ c.t.ip c.t.port c.t.my u.ip u.port u.my ww))) ?_
 refine aE [3] [(3,aB (bd c.t u))] <| kR ?_
 exact ⟨[.bool (bd c.t u)],by kernel_rfl,fun w' hb hf => ⟨rfl,hb⟩⟩
theorem yIndexFConn_c (l : List CV) (lV : Value) (u : Tup) (g : Nat) (w : World) (hl_lV : Sl w lV 25 (l.map az)) (hh_lV : ∀ x ∈ l, Sl w x.2 2 (x.1.r.held.map pC)) (hcell : (bI g 32 [iI u.ip, iI u.port, iI u.my]).p w) : Calls Tryz.prog 38 #[lV, .func (.func 39) #[] #[gP g]] w fun e w' => e = .returned (iI (aK ⟨l, []⟩ u)) ∧ Below w.heap.size w w' := by
 obtain ⟨Al,Cl,hvl⟩ := hl_lV.form
 rw [List.length_map] at hvl; subst hvl
 have hnl := hl_lV.len; rw [List.length_map] at hnl
 have hql := Sl.capLe hl_lV
 refine bL (args := [.slice Al l.length Cl,.func (.func 39) #[] #[gP g]]) (fn := Tryz.f38) [aX (.slice Al l.length Cl) 25 (l.map az),bi l,bI g 32 [iI u.ip,iI u.port,iI u.my]] Tryz.func38 rfl Tryz.ntmps38 rfl (by simp only [List.mem_cons,List.not_mem_nil,or_false,forall_eq_or_imp,forall_eq]; exact ⟨⟨rfl,hl_lV⟩,⟨rfl,hh_lV⟩,⟨rfl,hcell⟩⟩) ?_
 refine kQ <| cy [0,1] ⟨[(0,.v (.slice Al l.length Cl)),(1,.v (.func (.func 39) #[] #[gP g]))],[],[],[aX (.slice Al l.length Cl) 25 (l.map az),bi l,bI g 32 [iI u.ip,iI u.port,iI u.my]]⟩ <| kS <| kQ <| aY [0,1,7,8] [(7,aI ((l.length : Nat) : Int)),(8,aI 0)] ?_
 refine ap <| bo (α := {x : Nat // (fun (k : Nat) => k ≤ l.length ∧ ∀ (i : Nat) (h' : CV),i < k → l[i]? = some h' → bd h'.1.t u = false) x}) (fun x => (fun (k : Nat) => (⟨[(0,.v (.slice Al l.length Cl)),(1,.v (.func (.func 39) #[] #[gP g])),(7,aI ((l.length : Nat) : Int)),(8,aI (k : Int))],[],[],[aX (.slice Al l.length Cl) 25 (l.map az),bi l,bI g 32 [iI u.ip,iI u.port,iI u.my]]⟩ : St)) x.1) (fun x => l.length - x.1) ⟨(0),⟨Nat.zero_le _,fun i x hi => by omega⟩⟩ (kF 0 0 [0,1,7,8]) ?_
 rintro ⟨k,hk,HK⟩
 try dsimp only
 try dsimp only at hk HK
 refine kQ <| aY [0,1,7,8,9] [(9,aB (decide ((k : Int) < ((l.length : Nat) : Int))))] <| kS <| kC (decide ((k : Int) < ((l.length : Nat) : Int))) (fun h1 => ?_) (fun h1 => ?_)
 have h1p := of_decide_eq_true h1
 have hlt : k < l.length := by simpa using h1
 obtain ⟨x0,hx⟩ : ∃ x,l[k]? = some x := ⟨_,List.getElem?_eq_getElem hlt⟩
 obtain ⟨x,xa,xc,rfl⟩ := fz (hh_lV x0 (List.mem_of_getElem? hx))
 refine kK <| kS <| ap <| kQ <| aY [0,1,5,7,8] [(5,aI (k : Int))] ?_
 refine kQ <| da (kd := .i64) (T := 24) (e := 41) (K := 25) 3 [0,1,5,7,8,11,12,13] [(11,.v (.func (.func 39) #[] #[gP g])),(12,.v (.slice Al l.length Cl)),(13,aI (k : Int))] k [iI x.t.ip,iI x.t.port,iI x.t.my,iI x.state,iI x.s.una,.string x.s.data,iI x.s.sent,.bool x.s.fin,.bool x.s.finSent,.bool x.s.done,iI x.r.next,.string x.r.data,.slice xa x.r.held.length xc,iI x.r.fin,.bool x.r.done,iI x.window,iI x.most,iI x.o.mss,iI x.o.scale,.bool x.o.sack,.bool x.o.stamp,iI x.o.val,iI x.o.echo,iI x.timer,iI x.tries] (aX (.slice Al l.length Cl) 25 (l.map az)) (by kernel_rfl) rfl (by kernel_rfl) rfl rfl (by kernel_rfl) (by kernel_rfl) (by kernel_rfl) (by kernel_rfl) hlt (by simp) (fun w h => h) (fun b h => h) (by simp only [List.getElem?_map,hx]; rfl) ?_
 refine xl_callC 1 [0,1,5,7,8,11,15] ⟨[(0,.v (.slice Al l.length Cl)),(1,.v (.func (.func 39) #[] #[gP g])),(5,aI (k : Int)),(7,aI ((l.length : Nat) : Int)),(8,aI (k : Int)),(11,.v (.func (.func 39) #[] #[gP g])),(15,.v (.agg (a7 x (cS xa x xc)).toArray))],[],[[iI x.t.ip,iI x.t.port,iI x.t.my,iI x.state,iI x.s.una,.string x.s.data,iI x.s.sent,.bool x.s.fin,.bool x.s.finSent,.bool x.s.done,iI x.r.next,.string x.r.data,.slice xa x.r.held.length xc,iI x.r.fin,.bool x.r.done,iI x.window,iI x.most,iI x.o.mss,iI x.o.scale,.bool x.o.sack,.bool x.o.stamp,iI x.o.val,iI x.o.echo,iI x.timer,iI x.tries]],[aX (.slice Al l.length Cl) 25 (l.map az),bi l,bI g 32 [iI u.ip,iI u.port,iI u.my]]⟩ 39 [.agg (a7 x (cS xa x xc)).toArray,gP g] (some 16) (by kernel_rfl) rfl (by kernel_rfl) rfl (by kernel_rfl) (bu fun ww hf => yFindConn1_c x (cS xa x xc) u g ww (hf (bI g 32 [iI u.ip,iI u.port,iI u.my]) (by simp))) ?_
 intro _
 refine aY [0,1,5,7,8,16] [] <| kC (bd x.t u) (fun h2 => ?_) (fun h2 => ?_)
 have hfd := findConn_eq (t := ⟨l,[]⟩) hx (by exact h2) HK
 refine kQ <| aE [4] [(4,aI (k : Int))] <| kR ?_
 exact ⟨[iI (k : Int)],by kernel_rfl,fun w' hb hf => ⟨eW (by first | exact hfd.symm | exact hfn.symm),hb⟩⟩
 have hq : bd x.t u = false := by exact h2
 refine kK <| kG <| dl 2 [0,1,7,8] [(8,aI (K6.wrap ((k : Int) + 1)))] <| bE [0,1,7,8] [(8,aI (K6.wrap ((k : Int) + 1)))] [(8,aI ((k : Int) + 1))] (by rw [show (K6.wrap ((k : Int) + 1)) = ((k : Int) + 1) from ao (by omega) (by omega)]) (by kernel_rfl) ?_
 refine aY [0,1,7,8] [] ?_
 exact ⟨⟨(k + 1),⟨by omega,no_step (p := fun c : CV => bd c.1.t u) hx hq HK⟩⟩,kF 0 0 [0,1,7,8],by show l.length - (k + 1) < l.length - k; omega⟩
 have h1p := of_decide_eq_false h1
 have hge : k = l.length := by simp at h1; omega
 have hfn := findConn_no (t := ⟨l,[]⟩) hge HK
 refine bY <| kQ <| aE [4] [(4,aI (-1))] <| kR ?_
 exact ⟨[iI (-1)],by kernel_rfl,fun w' hb hf => ⟨eW (by first | exact hfd.symm | exact hfn.symm),hb⟩⟩
theorem yiFindConn_c (t : Tab) (t_connsV : Value) (t_waitingV : Value) (u : Tup) (w : World) (hl_t_connsV : Sl w t_connsV 25 (t.conns.map az)) (hh_t_connsV : ∀ x ∈ t.conns, Sl w x.2 2 (x.1.r.held.map pC)) (hl_t_waitingV : Sl w t_waitingV 3 (t.waiting.map a5))  : Calls Tryz.prog 15 #[.agg (ba t t_connsV t_waitingV).toArray, .agg (bt u).toArray] w fun e w' => e = .returned (iI (aK t u)) ∧ Below w.heap.size w w' := by
 obtain ⟨Atc,Ctc,hvtc⟩ := hl_t_connsV.form
 rw [List.length_map] at hvtc; subst hvtc
 have hntc := hl_t_connsV.len; rw [List.length_map] at hntc
 have hqtc := Sl.capLe hl_t_connsV
 obtain ⟨Atw,Ctw,hvtw⟩ := hl_t_waitingV.form
 rw [List.length_map] at hvtw; subst hvtw
 have hntw := hl_t_waitingV.len; rw [List.length_map] at hntw
 have hqtw := Sl.capLe hl_t_waitingV
 refine bL (args := [.agg (ba t (.slice Atc t.conns.length Ctc) (.slice Atw t.waiting.length Ctw)).toArray,.agg (bt u).toArray]) (fn := Tryz.f15) [aX (.slice Atc t.conns.length Ctc) 25 (t.conns.map az),bi t.conns,aX (.slice Atw t.waiting.length Ctw) 3 (t.waiting.map a5)] Tryz.func15 rfl Tryz.ntmps15 rfl (by simp only [List.mem_cons,List.not_mem_nil,or_false,forall_eq_or_imp,forall_eq]; exact ⟨⟨rfl,hl_t_connsV⟩,⟨rfl,hh_t_connsV⟩,⟨rfl,hl_t_waitingV⟩⟩) ?_
 refine kQ <| cy [2,3] ⟨[(2,.p 0 0),(3,.p 1 0)],[⟨27,ba t (.slice Atc t.conns.length Ctc) (.slice Atw t.waiting.length Ctw)⟩,⟨32,bt u⟩],[],[aX (.slice Atc t.conns.length Ctc) 25 (t.conns.map az),bi t.conns,aX (.slice Atw t.waiting.length Ctw) 3 (t.waiting.map a5)]⟩ <| kS <| xw_pinB 3 32 [iI u.ip,iI u.port,iI u.my] [⟨27,ba t (.slice Atc t.conns.length Ctc) (.slice Atw t.waiting.length Ctw)⟩] rfl (by kernel_rfl) (by kernel_rfl) ?_
 intro g hg hgn
 refine kG <| kOF 2 [3,6] ⟨[(3,aP g),(6,.v (.slice Atc t.conns.length Ctc))],[⟨27,ba t (.slice Atc t.conns.length Ctc) (.slice Atw t.waiting.length Ctw)⟩],[],[dR w.heap.size g 32 [iI u.ip,iI u.port,iI u.my],aX (.slice Atc t.conns.length Ctc) 25 (t.conns.map az),bi t.conns,aX (.slice Atw t.waiting.length Ctw) 3 (t.waiting.map a5)]⟩ (.func (.func 39) #[] #[gP g]) rfl (fun _ _ _ ww hr => act_mkf [gP g] hr.1 rfl (by kernel_rfl) ww) ?_
 refine dS 0 [6,7] [] 38 [.slice Atc t.conns.length Ctc,.func (.func 39) #[] #[gP g]] (some 8) rfl (bu fun ww hf => yIndexFConn_c t.conns (.slice Atc t.conns.length Ctc) u g ww (hf _ m1) (hf _ m2) (hf (dR w.heap.size g 32 [iI u.ip,iI u.port,iI u.my]) (by simp)).2) ?_
 intro _
 refine aE [4] [(4,aI (aK ⟨t.conns,[]⟩ u))] <| kR ?_
 exact ⟨[iI (aK ⟨t.conns,[]⟩ u)],by kernel_rfl,fun w' hb hf => ⟨eW (show (aK ⟨t.conns,[]⟩ u : Int) = aK t u from by rfl),hb⟩⟩
def aM (a b : Tab) : Bool := gl (fun x y : CV => dX x.1 y.1) a.conns b.conns && gl bd a.waiting b.waiting
theorem sameTable_pl {a a' b b' : Tab} (h : pl a.conns = pl a'.conns) (hw : a.waiting = a'.waiting) (h2 : pl b.conns = pl b'.conns) (hw2 : b.waiting = b'.waiting) : aM a b = aM a' b' := by
 unfold aM; rw [sameL_pl,sameL_pl,h,h2,hw,hw2]
theorem yl25Waits_c (l : List Tup) (lV : Value) (u : Tup) (w : World) (hl_lV : Sl w lV 3 (l.map a5))  : Calls Tryz.prog 27 #[lV, .agg (bt u).toArray] w fun e w' => e = .returned (.bool (cU l u)) ∧ Below w.heap.size w w' := by
 obtain ⟨Al,Cl,hvl⟩ := hl_lV.form
 rw [List.length_map] at hvl; subst hvl
 have hnl := hl_lV.len; rw [List.length_map] at hnl
 have hql := Sl.capLe hl_lV
 refine bL (args := [.slice Al l.length Cl,.agg (bt u).toArray]) (fn := Tryz.f27) [aX (.slice Al l.length Cl) 3 (l.map a5)] Tryz.func27 rfl Tryz.ntmps27 rfl (by simp only [List.mem_cons,List.not_mem_nil,or_false,forall_eq_or_imp,forall_eq]; exact ⟨rfl,hl_lV⟩) ?_
 refine kQ <| cy [0,3] ⟨[(0,.v (.slice Al l.length Cl)),(3,.p 0 0)],[⟨32,bt u⟩],[],[aX (.slice Al l.length Cl) 3 (l.map a5)]⟩ <| kS <| kQ <| aY [0,3,5] [(5,aI 0)] ?_
 refine ap <| bo (α := {x : Nat // (fun (k : Nat) => k ≤ l.length ∧ ∀ (i : Nat) (h' : Tup),i < k → l[i]? = some h' → bd h' u = false) x}) (fun x => (fun (k : Nat) => (⟨[(0,.v (.slice Al l.length Cl)),(3,.p 0 0),(5,aI (k : Int))],[⟨32,bt u⟩],[],[aX (.slice Al l.length Cl) 3 (l.map a5)]⟩ : St)) x.1) (fun x => l.length - x.1) ⟨(0),⟨Nat.zero_le _,fun i x hi => by omega⟩⟩ (kF 1 0 [0,3,5]) ?_
 rintro ⟨k,hk,HK⟩
 try dsimp only
 try dsimp only at hk HK
 refine kS <| kQ <| aY [0,3,5,9] [(9,aB (decide ((k : Int) < ((l.length : Nat) : Int))))] <| kC (decide ((k : Int) < ((l.length : Nat) : Int))) (fun h1 => ?_) (fun h1 => ?_)
 have h1p := of_decide_eq_true h1
 have hlt : k < l.length := by simpa using h1
 obtain ⟨x,hx⟩ : ∃ x,l[k]? = some x := ⟨_,List.getElem?_eq_getElem hlt⟩
 refine kK <| kS <| ap <| kS <| dx ?_
 refine dr (K := 3) (j := k) [iI x.ip,iI x.port,iI x.my] (aX (.slice Al l.length Cl) 3 (l.map a5)) (fun _ _ h => h) (by simp) (fun w h => h) (fun b h => h) (by simp only [List.getElem?_map,hx]; rfl) (fun bq2 offq2 hAq2 => ?_)
 refine ca [] (by kernel_rfl) (fun ρ σ hq3 => ?_)
 refine cQ [0,1,4] [16,13,12,0,3,5] 3 [(16,.v (.agg (bt u).toArray)),(13,aI (k : Int)),(12,.v (.slice Al l.length Cl))] <| cM (kd := .i64) (T := 25) (e := 32) (K := 3) (j := k) (A := Al) (len := l.length) (cap := Cl) 2 0 _ rfl (by kernel_rfl) (by kernel_rfl) (by kernel_rfl) (fun _ _ h => h) (by kernel_rfl) rfl rfl (by kernel_rfl) (by kernel_rfl) (by kernel_rfl) (by kernel_rfl) hlt hAq2 hq3.2 (by kernel_rfl) rfl ?_
 refine cQ [3] [15,16,0,3,5] 1 [(15,.v (.agg (bt x).toArray))] <| kX 5 (.bool (bd x u)) rfl (fun _ _ ww hA => cb hA rfl (by kernel_rfl) (by kernel_rfl) (fZ (by kernel_rfl) (eJ x.ip x.port x.my u.ip u.port u.my ww))) ?_
 refine kZ <| kC (bd x u) (fun h4 => ?_) (fun h4 => ?_)
 have hfd := (fun a b (_ : ∀ (i : Nat) (h' : Tup),i < k → l[i]? = some h' → bd h' u = false) => isWait_yes (l := l) (k := k) a b) hx (by exact h4) HK
 refine kQ <| aE [4] [(4,aB true)] <| kR ?_
 exact ⟨[.bool true],by kernel_rfl,fun w' hb hf => ⟨aQ (show (true : Bool) = cU l u from by first | exact hfd.symm | exact hfn.symm),hb⟩⟩
 have hq : bd x u = false := by exact h4
 refine kK <| kG <| dl 3 [0,3,5] [(5,aI (K6.wrap ((k : Int) + 1)))] <| bE [0,3,5] [(5,aI (K6.wrap ((k : Int) + 1)))] [(5,aI ((k : Int) + 1))] (by rw [show (K6.wrap ((k : Int) + 1)) = ((k : Int) + 1) from ao (by omega) (by omega)]) (by kernel_rfl) ?_
 refine aY [0,3,5] [] ?_
 exact ⟨⟨(k + 1),⟨by omega,no_step (p := fun c : Tup => bd c u) hx hq HK⟩⟩,kF 1 0 [0,3,5],by show l.length - (k + 1) < l.length - k; omega⟩
 have h1p := of_decide_eq_false h1
 have hge : k = l.length := by simp at h1; omega
 have hfn := isWait_no hge HK
 refine bY <| kQ <| aE [4] [(4,aB false)] <| kR ?_
 exact ⟨[.bool false],by kernel_rfl,fun w' hb hf => ⟨aQ (show (false : Bool) = cU l u from by first | exact hfd.symm | exact hfn.symm),hb⟩⟩
theorem yIndexTuple_c (l : List Tup) (lV : Value) (u : Tup) (w : World) (hl_lV : Sl w lV 3 (l.map a5))  : Calls Tryz.prog 35 #[lV, .agg (bt u).toArray] w fun e w' => e = .returned (iI (db l u)) ∧ Below w.heap.size w w' := by
 obtain ⟨Al,Cl,hvl⟩ := hl_lV.form
 rw [List.length_map] at hvl; subst hvl
 have hnl := hl_lV.len; rw [List.length_map] at hnl
 have hql := Sl.capLe hl_lV
 refine bL (args := [.slice Al l.length Cl,.agg (bt u).toArray]) (fn := Tryz.f35) [aX (.slice Al l.length Cl) 3 (l.map a5)] Tryz.func35 rfl Tryz.ntmps35 rfl (by simp only [List.mem_cons,List.not_mem_nil,or_false,forall_eq_or_imp,forall_eq]; exact ⟨rfl,hl_lV⟩) ?_
 refine kQ <| cy [0,3] ⟨[(0,.v (.slice Al l.length Cl)),(3,.p 0 0)],[⟨32,bt u⟩],[],[aX (.slice Al l.length Cl) 3 (l.map a5)]⟩ <| kS <| kQ <| aY [0,3,7,8] [(7,aI ((l.length : Nat) : Int)),(8,aI 0)] ?_
 refine ap <| bo (α := {x : Nat // (fun (k : Nat) => k ≤ l.length ∧ ∀ (i : Nat) (h' : Tup),i < k → l[i]? = some h' → bd h' u = false) x}) (fun x => (fun (k : Nat) => (⟨[(0,.v (.slice Al l.length Cl)),(3,.p 0 0),(7,aI ((l.length : Nat) : Int)),(8,aI (k : Int))],[⟨32,bt u⟩],[],[aX (.slice Al l.length Cl) 3 (l.map a5)]⟩ : St)) x.1) (fun x => l.length - x.1) ⟨(0),⟨Nat.zero_le _,fun i x hi => by omega⟩⟩ (kF 1 0 [0,3,7,8]) ?_
 rintro ⟨k,hk,HK⟩
 try dsimp only
 try dsimp only at hk HK
 refine kQ <| aY [0,3,7,8,9] [(9,aB (decide ((k : Int) < ((l.length : Nat) : Int))))] <| kS <| kC (decide ((k : Int) < ((l.length : Nat) : Int))) (fun h1 => ?_) (fun h1 => ?_)
 have h1p := of_decide_eq_true h1
 have hlt : k < l.length := by simpa using h1
 obtain ⟨x,hx⟩ : ∃ x,l[k]? = some x := ⟨_,List.getElem?_eq_getElem hlt⟩
 refine kK <| kS <| ap <| kQ <| aY [0,3,5,7,8] [(5,aI (k : Int))] ?_
 refine kS <| dx <| dr (K := 3) (j := k) [iI x.ip,iI x.port,iI x.my] (aX (.slice Al l.length Cl) 3 (l.map a5)) (fun _ _ h => h) (by simp) (fun w h => h) (fun b h => h) (by simp only [List.getElem?_map,hx]; rfl) (fun bq2 offq2 hAq2 => ?_)
 refine ca [] (by kernel_rfl) (fun ρ σ hq3 => ?_)
 refine cQ [0,1,2] [13,12,11,0,3,5,7,8] 3 [(13,aI (k : Int)),(12,.v (.slice Al l.length Cl)),(11,.v (.agg (bt u).toArray))] <| cM (kd := .i64) (T := 25) (e := 32) (K := 3) (j := k) (A := Al) (len := l.length) (cap := Cl) 3 0 _ rfl (by kernel_rfl) (by kernel_rfl) (by kernel_rfl) (fun _ _ h => h) (by kernel_rfl) rfl rfl (by kernel_rfl) (by kernel_rfl) (by kernel_rfl) (by kernel_rfl) hlt hAq2 hq3.2 (by kernel_rfl) rfl ?_
 refine cQ [4] [15,11,0,3,5,7,8] 1 [(15,.v (.agg (bt x).toArray))] <| kX 5 (.bool (bd u x)) rfl (fun _ _ ww hA => cb hA rfl (by kernel_rfl) (by kernel_rfl) (fZ (by kernel_rfl) (eJ u.ip u.port u.my x.ip x.port x.my ww))) ?_
 refine kZ <| kC (bd u x) (fun h4 => ?_) (fun h4 => ?_)
 have hfd := idxTup_eq hx (by rw [tupEq_comm]; exact h4) HK
 refine kQ <| aE [4] [(4,aI (k : Int))] <| kR ?_
 exact ⟨[iI (k : Int)],by kernel_rfl,fun w' hb hf => ⟨eW (show ((k : Int) : Int) = db l u from by first | exact hfd.symm | exact hfn.symm),hb⟩⟩
 have hq : bd x u = false := by rw [tupEq_comm]; exact h4
 refine kK <| kG <| dl 2 [0,3,7,8] [(8,aI (K6.wrap ((k : Int) + 1)))] <| bE [0,3,7,8] [(8,aI (K6.wrap ((k : Int) + 1)))] [(8,aI ((k : Int) + 1))] (by rw [show (K6.wrap ((k : Int) + 1)) = ((k : Int) + 1) from ao (by omega) (by omega)]) (by kernel_rfl) ?_
 refine aY [0,3,7,8] [] ?_
 exact ⟨⟨(k + 1),⟨by omega,no_step (p := fun c : Tup => bd c u) hx hq HK⟩⟩,kF 1 0 [0,3,7,8],by show l.length - (k + 1) < l.length - k; omega⟩
 have h1p := of_decide_eq_false h1
 have hge : k = l.length := by simp at h1; omega
 have hfn := idxTup_no hge HK
 refine bY <| kQ <| aE [4] [(4,aI (-1))] <| kR ?_
 exact ⟨[iI (-1)],by kernel_rfl,fun w' hb hf => ⟨eW (show ((-1) : Int) = db l u from by first | exact hfd.symm | exact hfn.symm),hb⟩⟩
theorem yContainsTuple_c (l : List Tup) (lV : Value) (u : Tup) (w : World) (hl_lV : Sl w lV 3 (l.map a5))  : Calls Tryz.prog 24 #[lV, .agg (bt u).toArray] w fun e w' => e = .returned (.bool (cU l u)) ∧ Below w.heap.size w w' := by
 obtain ⟨Al,Cl,hvl⟩ := hl_lV.form
 rw [List.length_map] at hvl; subst hvl
 have hnl := hl_lV.len; rw [List.length_map] at hnl
 have hql := Sl.capLe hl_lV
 refine bL (args := [.slice Al l.length Cl,.agg (bt u).toArray]) (fn := Tryz.f24) [aX (.slice Al l.length Cl) 3 (l.map a5)] Tryz.func24 rfl Tryz.ntmps24 rfl (by simp only [List.mem_cons,List.not_mem_nil,or_false,forall_eq_or_imp,forall_eq]; exact ⟨rfl,hl_lV⟩) ?_
 refine kQ <| cy [0,3] ⟨[(0,.v (.slice Al l.length Cl)),(3,.p 0 0)],[⟨32,bt u⟩],[],[aX (.slice Al l.length Cl) 3 (l.map a5)]⟩ <| kQ <| em 2 [5,6] [(5,.v (.slice Al l.length Cl)),(6,.v (.agg (bt u).toArray))] 35 [.slice Al l.length Cl,.agg (bt u).toArray] (some 7) rfl (bu fun ww hf => yIndexTuple_c l (.slice Al l.length Cl) u ww (hf _ m0) ) ?_
 intro _
 refine aE [4] [(4,aB (decide ((db l u) ≥ 0)))] <| kR ?_
 exact ⟨[.bool (decide ((db l u) ≥ 0))],by kernel_rfl,fun w' hb hf => ⟨aQ (show (decide ((db l u) ≥ 0) : Bool) = cU l u from by exact (isWait_idx _ _).symm),hb⟩⟩
theorem ysLimitsOk_c (l : Lim) (w : World)  : Calls Tryz.prog 36 #[.agg (c9 l).toArray] w fun e w' => e = .returned (.bool (eF l)) ∧ Below w.heap.size w w' := by
 refine bL (args := [.agg (c9 l).toArray]) (fn := Tryz.f36) [] Tryz.func36 rfl Tryz.ntmps36 rfl (by simp) ?_
 refine kQ <| cy [1] ⟨[(1,.p 0 0)],[⟨43,c9 l⟩],[],[]⟩ <| kS <| cn ⟨[(2,aB ((cG l.halves 1 64) && ((cG l.waiting 1 16) && ((cG l.conns 1 16) && (cG l.chal 0 1000)))))],[⟨43,c9 l⟩],[],[]⟩ ?_ ?_
 refine kG <| em 2 [1,4] [(1,.p 0 0),(4,aI l.halves)] 63 [iI l.halves,iI 1,iI 64] (some 5) rfl (cz fun ww hf => dA l.halves 1 64 ww ) ?_
 intro _
 refine eb 1 [1,6] [(1,.p 0 0),(6,aB (cG l.halves 1 64))] <| kP 6 (cG l.halves 1 64) (fun h1 => ?_) (fun h1 => ?_)
 have h1i := inB_tt.1 (show cG l.halves 1 64 = true from by simpa using h1)
 refine em 2 [1,6,8] [(1,.p 0 0),(6,aB true),(8,aI l.waiting)] 63 [iI l.waiting,iI 1,iI 16] (some 9) rfl (cz fun ww hf => dA l.waiting 1 16 ww ) ?_
 intro _
 refine eb 2 [1,11] [(1,.p 0 0),(11,aB (cG l.waiting 1 16))] <| kP 11 (cG l.waiting 1 16) (fun h2 => ?_) (fun h2 => ?_)
 have h2i := inB_tt.1 (show cG l.waiting 1 16 = true from by simpa using h2)
 refine em 2 [1,11,13] [(1,.p 0 0),(11,aB true),(13,aI l.conns)] 63 [iI l.conns,iI 1,iI 16] (some 14) rfl (cz fun ww hf => dA l.conns 1 16 ww ) ?_
 intro _
 refine eb 2 [1,16] [(1,.p 0 0),(16,aB (cG l.conns 1 16))] <| kP 16 (cG l.conns 1 16) (fun h3 => ?_) (fun h3 => ?_)
 have h3i := inB_tt.1 (show cG l.conns 1 16 = true from by simpa using h3)
 refine em 2 [16,18] [(16,aB true),(18,aI l.chal)] 63 [iI l.chal,iI 0,iI 1000] (some 19) rfl (cz fun ww hf => dA l.chal 0 1000 ww ) ?_
 intro _
 refine aE [2] [(2,aB (cG l.chal 0 1000))] ?_
 show Wk _ _
 try rw [h1]
 try rw [h2]
 try rw [h3]
 exact kF 1 0 [2]
 have h3i := inB_ff.1 (show cG l.conns 1 16 = false from by simpa using h3)
 refine aE [2] [(2,aB false)] ?_
 show Wk _ _
 try rw [h1]
 try rw [h2]
 try rw [h3]
 exact kF 1 0 [2]
 have h2i := inB_ff.1 (show cG l.waiting 1 16 = false from by simpa using h2)
 refine aE [2] [(2,aB false)] ?_
 show Wk _ _
 try rw [h1]
 try rw [h2]
 exact kF 1 0 [2]
 have h1i := inB_ff.1 (show cG l.halves 1 64 = false from by simpa using h1)
 refine aE [2] [(2,aB false)] ?_
 show Wk _ _
 try rw [h1]
 exact kF 1 0 [2]
 refine kR ?_
 exact ⟨[.bool ((cG l.halves 1 64) && ((cG l.waiting 1 16) && ((cG l.conns 1 16) && (cG l.chal 0 1000))))],by kernel_rfl,fun w' hb hf => ⟨aQ (show ((cG l.halves 1 64) && ((cG l.waiting 1 16) && ((cG l.conns 1 16) && (cG l.chal 0 1000))) : Bool) = eF l from by first | rfl | (simp [eF, *]; done) | grind [eF]),hb⟩⟩
theorem ysTableOk_c (t : Tab) (t_connsV : Value) (t_waitingV : Value) (l : Lim) (w : World) (hl_t_connsV : Sl w t_connsV 25 (t.conns.map az)) (hh_t_connsV : ∀ x ∈ t.conns, Sl w x.2 2 (x.1.r.held.map pC)) (hl_t_waitingV : Sl w t_waitingV 3 (t.waiting.map a5)) (hfit : ∀ x ∈ t.conns, bj x.1) : Calls Tryz.prog 14 #[.agg (ba t t_connsV t_waitingV).toArray, .agg (c9 l).toArray] w fun e w' => e = .returned (.bool (cq t l)) ∧ Below w.heap.size w w' := by
 obtain ⟨Atc,Ctc,hvtc⟩ := hl_t_connsV.form
 rw [List.length_map] at hvtc; subst hvtc
 have hntc := hl_t_connsV.len; rw [List.length_map] at hntc
 have hqtc := Sl.capLe hl_t_connsV
 obtain ⟨Atw,Ctw,hvtw⟩ := hl_t_waitingV.form
 rw [List.length_map] at hvtw; subst hvtw
 have hntw := hl_t_waitingV.len; rw [List.length_map] at hntw
 have hqtw := Sl.capLe hl_t_waitingV
 refine bL (args := [.agg (ba t (.slice Atc t.conns.length Ctc) (.slice Atw t.waiting.length Ctw)).toArray,.agg (c9 l).toArray]) (fn := Tryz.f14) [aX (.slice Atc t.conns.length Ctc) 25 (t.conns.map az),bi t.conns,aX (.slice Atw t.waiting.length Ctw) 3 (t.waiting.map a5)] Tryz.func14 rfl Tryz.ntmps14 rfl (by simp only [List.mem_cons,List.not_mem_nil,or_false,forall_eq_or_imp,forall_eq]; exact ⟨⟨rfl,hl_t_connsV⟩,⟨rfl,hh_t_connsV⟩,⟨rfl,hl_t_waitingV⟩⟩) ?_
 refine kQ <| cy [2,3] ⟨[(2,.p 0 0),(3,.p 1 0)],[⟨27,ba t (.slice Atc t.conns.length Ctc) (.slice Atw t.waiting.length Ctw)⟩,⟨43,c9 l⟩],[],[aX (.slice Atc t.conns.length Ctc) 25 (t.conns.map az),bi t.conns,aX (.slice Atw t.waiting.length Ctw) 3 (t.waiting.map a5)]⟩ <| kS <| kQ <| dS 1 [2,3,7] [(7,.v (.agg (c9 l).toArray))] 36 [.agg (c9 l).toArray] (some 8) rfl (bu fun ww hf => ysLimitsOk_c l ww ) ?_
 intro _
 refine dl 2 [2,3,10] [(10,aB (!(eF l)))] <| kP 10 (!(eF l)) (fun h1 => ?_) (fun h1 => ?_)
 have h1n := cd h1
 refine aY [2,25] [(25,aB true)] <| kT <| kQ <| aE [4] [(4,aB false)] ?_
 refine kR ?_
 exact ⟨[.bool false],by kernel_rfl,fun w' hb hf => ⟨aQ (show (false : Bool) = cq t l from by first | exact hno.symm | (exact (dE (by simpa using h1) (by omega) (by omega) hallC hgew HKw).symm) | (exact (dD (by simpa using h1)).symm) | (exact (dG (by omega)).symm) | (exact (dW (by omega)).symm)),hb⟩⟩
 have h1n := bS h1
 refine dl 8 [2,3,18] [(18,aB (decide (((t.conns.length : Nat) : Int) > l.conns)))] <| kP 18 (decide (((t.conns.length : Nat) : Int) > l.conns)) (fun h2 => ?_) (fun h2 => ?_)
 have h2p := of_decide_eq_true h2
 refine aY [2,25] [(25,aB true)] <| kT <| kQ <| aE [4] [(4,aB false)] ?_
 refine kR ?_
 exact ⟨[.bool false],by kernel_rfl,fun w' hb hf => ⟨aQ (show (false : Bool) = cq t l from by first | exact hno.symm | (exact (dE (by simpa using h1) (by omega) (by omega) hallC hgew HKw).symm) | (exact (dD (by simpa using h1)).symm) | (exact (dG (by omega)).symm) | (exact (dW (by omega)).symm)),hb⟩⟩
 have h2p := of_decide_eq_false h2
 refine aY [2,25] [(25,aB (decide (((t.waiting.length : Nat) : Int) > l.waiting)))] <| kC (decide (((t.waiting.length : Nat) : Int) > l.waiting)) (fun h3 => ?_) (fun h3 => ?_)
 have h3p := of_decide_eq_true h3
 refine kQ <| aE [4] [(4,aB false)] <| kR ?_
 exact ⟨[.bool false],by kernel_rfl,fun w' hb hf => ⟨aQ (show (false : Bool) = cq t l from by first | exact hno.symm | (exact (dE (by simpa using h1) (by omega) (by omega) hallC hgew HKw).symm) | (exact (dD (by simpa using h1)).symm) | (exact (dG (by omega)).symm) | (exact (dW (by omega)).symm)),hb⟩⟩
 have h3p := of_decide_eq_false h3
 refine kK <| kS <| kQ <| aY [2,5] [(5,aI 0)] ?_
 refine ap <| bo (α := {x : Nat // (fun (k : Nat) => k ≤ t.conns.length ∧ ∀ (i : Nat) (x : CV),i < k → t.conns[i]? = some x → cOne t i x = true) x}) (fun x => (fun (k : Nat) => (⟨[(2,.p 0 0),(5,aI (k : Int))],[⟨27,ba t (.slice Atc t.conns.length Ctc) (.slice Atw t.waiting.length Ctw)⟩,⟨43,c9 l⟩],[],[aX (.slice Atc t.conns.length Ctc) 25 (t.conns.map az),bi t.conns,aX (.slice Atw t.waiting.length Ctw) 3 (t.waiting.map a5)]⟩ : St)) x.1) (fun x => t.conns.length - x.1) ⟨(0),⟨Nat.zero_le _,fun i x hi => by omega⟩⟩ (kF 2 0 [2,5]) ?_
 rintro ⟨k,hk,HK⟩
 try dsimp only
 try dsimp only at hk HK
 refine kS <| kQ <| aY [2,5,30] [(30,aB (decide ((k : Int) < ((t.conns.length : Nat) : Int))))] <| kC (decide ((k : Int) < ((t.conns.length : Nat) : Int))) (fun h4 => ?_) (fun h4 => ?_)
 have h4p := of_decide_eq_true h4
 have hlt : k < t.conns.length := by simpa using h4
 obtain ⟨x0,hx⟩ : ∃ x,t.conns[k]? = some x := ⟨_,List.getElem?_eq_getElem hlt⟩
 obtain ⟨x,xa,xc,rfl⟩ := fz (hh_t_connsV x0 (List.mem_of_getElem? hx))
 have hft_x : bj x := hfit _ (List.mem_of_getElem? hx)
 obtain ⟨hfs_x,hfr_x,hfh_x,hfp_x⟩ := hft_x
 refine kK <| kS <| ap <| kS <| dx ?_
 refine dr (K := 25) (j := k) [iI x.t.ip,iI x.t.port,iI x.t.my,iI x.state,iI x.s.una,.string x.s.data,iI x.s.sent,.bool x.s.fin,.bool x.s.finSent,.bool x.s.done,iI x.r.next,.string x.r.data,.slice xa x.r.held.length xc,iI x.r.fin,.bool x.r.done,iI x.window,iI x.most,iI x.o.mss,iI x.o.scale,.bool x.o.sack,.bool x.o.stamp,iI x.o.val,iI x.o.echo,iI x.timer,iI x.tries] (aX (.slice Atc t.conns.length Ctc) 25 (t.conns.map az)) (fun _ _ h => h) (by simp) (fun w h => h) (fun b h => h) (by simp only [List.getElem?_map,hx]; rfl) (fun bq5 offq5 hAq5 => ?_)
 refine dr (K := 25) (j := k) [iI x.t.ip,iI x.t.port,iI x.t.my,iI x.state,iI x.s.una,.string x.s.data,iI x.s.sent,.bool x.s.fin,.bool x.s.finSent,.bool x.s.done,iI x.r.next,.string x.r.data,.slice xa x.r.held.length xc,iI x.r.fin,.bool x.r.done,iI x.window,iI x.most,iI x.o.mss,iI x.o.scale,.bool x.o.sack,.bool x.o.stamp,iI x.o.val,iI x.o.echo,iI x.timer,iI x.tries] (aX (.slice Atc t.conns.length Ctc) 25 (t.conns.map az)) (fun _ _ h => h) (by simp) (fun w h => h) (fun b h => h) (by simp only [List.getElem?_map,hx]; rfl) (fun bq6 offq6 hAq6 => ?_)
 refine ca [] (by kernel_rfl) (fun ρ σ hq7 => ?_)
 refine cQ [0,1,2] [35,34,2,5] 16 [(35,aI (k : Int)),(34,.v (.slice Atc t.conns.length Ctc))] <| cM (kd := .i64) (T := 24) (e := 41) (K := 25) (j := k) (A := Atc) (len := t.conns.length) (cap := Ctc) 3 0 _ rfl (by kernel_rfl) (by kernel_rfl) (by kernel_rfl) (fun _ _ h => h) (by kernel_rfl) rfl rfl (by kernel_rfl) (by kernel_rfl) (by kernel_rfl) (by kernel_rfl) hlt hAq5 hq7.1.2 (by kernel_rfl) rfl ?_
 refine cQ [4] [37,2,5] 14 [(37,.v (.agg (a7 x (cS xa x xc)).toArray))] <| kA [5] <| cE 5 37 [.agg (a7 x (cS xa x xc)).toArray] (some 38) rfl (bu fun ww hf => e0 x (cS xa x xc) ww ((hf _ m1) (x,.slice xa x.r.held.length xc) (List.mem_of_getElem? hx)) (by assumption) (by omega)) ?_
 intro _
 refine cQ [6,7] [40,2,5] 11 [(40,aB (!(bv x)))] <| kY 40 (!(bv x)) (fun h8 => ?_) (fun h8 => ?_)
 have hno := tableOk_c (l := l) hx (cOne_no1 (by simpa using h8))
 refine cQ [8,9,10,11,16] [49,44,43,41,40,2,5] 6 [(49,.v undef),(44,.v undef),(43,.v undef),(41,.v undef),(40,aB true)] <| xe_skip 12 ⟨[(45,.v undef),(49,.v undef),(44,.v undef),(43,.v undef),(41,.v undef),(40,aB true),(2,.p 0 0),(5,aI (k : Int))],[⟨27,ba t (.slice Atc t.conns.length Ctc) (.slice Atw t.waiting.length Ctw)⟩,⟨43,c9 l⟩],[[iI x.t.ip,iI x.t.port,iI x.t.my,iI x.state,iI x.s.una,.string x.s.data,iI x.s.sent,.bool x.s.fin,.bool x.s.finSent,.bool x.s.done,iI x.r.next,.string x.r.data,.slice xa x.r.held.length xc,iI x.r.fin,.bool x.r.done,iI x.window,iI x.most,iI x.o.mss,iI x.o.scale,.bool x.o.sack,.bool x.o.stamp,iI x.o.val,iI x.o.echo,iI x.timer,iI x.tries],[iI x.t.ip,iI x.t.port,iI x.t.my,iI x.state,iI x.s.una,.string x.s.data,iI x.s.sent,.bool x.s.fin,.bool x.s.finSent,.bool x.s.done,iI x.r.next,.string x.r.data,.slice xa x.r.held.length xc,iI x.r.fin,.bool x.r.done,iI x.window,iI x.most,iI x.o.mss,iI x.o.scale,.bool x.o.sack,.bool x.o.stamp,iI x.o.val,iI x.o.echo,iI x.timer,iI x.tries]],[aX (.slice Atc t.conns.length Ctc) 25 (t.conns.map az),bi t.conns,aX (.slice Atw t.waiting.length Ctw) 3 (t.waiting.map a5)]⟩ rfl (by kernel_rfl) (by kernel_rfl) (by kernel_rfl) (fun _ _ h => h) (by kernel_rfl) rfl (by kernel_rfl) ?_
 refine cJ [13,14,15,17,18] [51,2,5] 0 [(51,aB true),(2,.p 0 0),(5,aI (k : Int))] <| kZ <| kT <| kQ <| aE [4] [(4,aB false)] ?_
 refine kR ?_
 exact ⟨[.bool false],by kernel_rfl,fun w' hb hf => ⟨aQ (show (false : Bool) = cq t l from by first | exact hno.symm | (exact (dE (by simpa using h1) (by omega) (by omega) hallC hgew HKw).symm) | (exact (dD (by simpa using h1)).symm) | (exact (dG (by omega)).symm) | (exact (dW (by omega)).symm)),hb⟩⟩
 have hy1 : bv x = true := by simpa using h8
 refine cQ [8,9,10,11,16] [49,44,43,41,40,2,5] 6 [(49,aI (k : Int)),(44,aI (k : Int)),(43,.v (.slice Atc t.conns.length Ctc)),(41,.v (.agg (ba t (.slice Atc t.conns.length Ctc) (.slice Atw t.waiting.length Ctw)).toArray)),(40,aB false)] <| cM (kd := .i64) (T := 24) (e := 41) (K := 25) (j := k) (A := Atc) (len := t.conns.length) (cap := Ctc) 12 1 _ rfl (by kernel_rfl) (by kernel_rfl) (by kernel_rfl) (fun _ _ h => h) (by kernel_rfl) rfl rfl (by kernel_rfl) (by kernel_rfl) (by kernel_rfl) (by kernel_rfl) hlt hAq6 hq7.2 (by kernel_rfl) rfl ?_
 refine cJ [13,14] [47,49,41,40,2,5] 3 [(47,.v (.agg (bt x.t).toArray)),(49,aI (k : Int)),(41,.v (.agg (ba t (.slice Atc t.conns.length Ctc) (.slice Atw t.waiting.length Ctw)).toArray)),(40,aB false),(2,.p 0 0),(5,aI (k : Int))] <| kA [15] <| cE 15 29 [.agg (ba t (.slice Atc t.conns.length Ctc) (.slice Atw t.waiting.length Ctw)).toArray,.agg (bt x.t).toArray] (some 48) rfl (bu fun ww hf => gJ t (.slice Atc t.conns.length Ctc) (.slice Atw t.waiting.length Ctw) x.t ww (hf _ m0) (hf _ m1) (hf _ m2) ) ?_
 intro _
 refine cQ [17,18] [51,2,5] 0 [(51,aB ((aK t x.t) != (k : Int)))] <| kZ <| kC ((aK t x.t) != (k : Int)) (fun h9 => ?_) (fun h9 => ?_)
 have h9p := neT h9
 have hno := tableOk_c (l := l) hx (cOne_no2 (by simpa using h9))
 refine kQ <| aE [4] [(4,aB false)] <| kR ?_
 exact ⟨[.bool false],by kernel_rfl,fun w' hb hf => ⟨aQ (show (false : Bool) = cq t l from by first | exact hno.symm | (exact (dE (by simpa using h1) (by omega) (by omega) hallC hgew HKw).symm) | (exact (dD (by simpa using h1)).symm) | (exact (dG (by omega)).symm) | (exact (dW (by omega)).symm)),hb⟩⟩
 have h9p := neF h9
 have hy2 : aK t x.t = (k : Int) := by simpa using h9
 refine kK <| kG <| dl 3 [2,5] [(5,aI (K6.wrap ((k : Int) + 1)))] <| bE [2,5] [(5,aI (K6.wrap ((k : Int) + 1)))] [(5,aI ((k : Int) + 1))] (by rw [show (K6.wrap ((k : Int) + 1)) = ((k : Int) + 1) from ao (by omega) (by omega)]) (by kernel_rfl) ?_
 refine aY [2,5] [] ?_
 exact ⟨⟨(k + 1),⟨by omega,all_step (p := cOne t) hx (cOne_yes hy1 hy2) HK⟩⟩,kF 2 0 [2,5],by show t.conns.length - (k + 1) < t.conns.length - k; omega⟩
 have h4p := of_decide_eq_false h4
 have hge : k = t.conns.length := by simp at h4; omega
 have hallC := allI_all hge HK
 refine bY <| kS <| kQ <| aY [2,6] [(6,aI 0)] ?_
 refine ap <| bo (α := {x : Nat // (fun (kw : Nat) => kw ≤ t.waiting.length ∧ ∀ (i : Nat) (x : Tup),i < kw → t.waiting[i]? = some x → wOne t i x = true) x}) (fun x => (fun (kw : Nat) => (⟨[(2,.p 0 0),(6,aI (kw : Int))],[⟨27,ba t (.slice Atc t.conns.length Ctc) (.slice Atw t.waiting.length Ctw)⟩,⟨43,c9 l⟩],[],[aX (.slice Atc t.conns.length Ctc) 25 (t.conns.map az),bi t.conns,aX (.slice Atw t.waiting.length Ctw) 3 (t.waiting.map a5)]⟩ : St)) x.1) (fun x => t.waiting.length - x.1) ⟨(0),⟨Nat.zero_le _,fun i x hi => by omega⟩⟩ (kF 2 0 [2,6]) ?_
 rintro ⟨kw,hkw,HKw⟩
 try dsimp only
 try dsimp only at hkw HKw
 refine kS <| kQ <| aY [2,6,56] [(56,aB (decide ((kw : Int) < ((t.waiting.length : Nat) : Int))))] <| kC (decide ((kw : Int) < ((t.waiting.length : Nat) : Int))) (fun h10 => ?_) (fun h10 => ?_)
 have h10p := of_decide_eq_true h10
 have hltw : kw < t.waiting.length := by simpa using h10
 obtain ⟨xw,hxw⟩ : ∃ x,t.waiting[kw]? = some x := ⟨_,List.getElem?_eq_getElem hltw⟩
 have hwp := wait_pre hxw
 refine kK <| kS <| ap <| kS <| dx ?_
 refine dr (K := 3) (j := kw) [iI xw.ip,iI xw.port,iI xw.my] (aX (.slice Atw t.waiting.length Ctw) 3 (t.waiting.map a5)) (fun _ _ h => h) (by simp) (fun w h => h) (fun b h => h) (by simp only [List.getElem?_map,hxw]; rfl) (fun bq11 offq11 hAq11 => ?_)
 refine dr (K := 3) (j := kw) [iI xw.ip,iI xw.port,iI xw.my] (aX (.slice Atw t.waiting.length Ctw) 3 (t.waiting.map a5)) (fun _ _ h => h) (by simp) (fun w h => h) (fun b h => h) (by simp only [List.getElem?_map,hxw]; rfl) (fun bq12 offq12 hAq12 => ?_)
 refine ca [] (by kernel_rfl) (fun ρ σ hq13 => ?_)
 refine cQ [0,1,2,4,5,6] [65,64,61,60,2,6] 14 [(65,aI (kw : Int)),(64,.v (.slice Atw t.waiting.length Ctw)),(61,aI (kw : Int)),(60,.v (.slice Atw t.waiting.length Ctw))] <| kX 3 (.slice (if Ctw = 0 then Atw else Atw.map (·.add (0 * 3))) (kw - 0) (Ctw - 0)) rfl (fun _ _ ww hA => act_slV0 (e := 32) kw hA rfl (by kernel_rfl) (by kernel_rfl) rfl rfl rfl (by omega) ww) ?_
 refine cM (kd := .i64) (T := 25) (e := 32) (K := 3) (j := kw) (A := Atw) (len := t.waiting.length) (cap := Ctw) 7 0 _ rfl (by kernel_rfl) (by kernel_rfl) (by kernel_rfl) (fun _ _ h => h) (by kernel_rfl) rfl rfl (by kernel_rfl) (by kernel_rfl) (by kernel_rfl) (by kernel_rfl) hltw hAq11 hq13.1.2 (by kernel_rfl) rfl ?_
 refine cQ [8] [67,62,2,6] 11 [(67,.v (.agg (bt xw).toArray)),(62,.v (.slice (if Ctw = 0 then Atw else Atw.map (·.add (0 * 3))) (kw - 0) (Ctw - 0)))] <| kA [9] <| cE 9 27 [.slice (if Ctw = 0 then Atw else Atw.map (·.add (0 * 3))) (kw - 0) (Ctw - 0),.agg (bt xw).toArray] (some 68) rfl (bu fun ww hf => yl25Waits_c ((t.waiting.drop 0).take (kw - 0)) (.slice (if Ctw = 0 then Atw else Atw.map (·.add (0 * 3))) (kw - 0) (Ctw - 0)) xw ww (Sl.partM (hf _ m2) 0 kw (by omega) (by omega)) ) ?_
 intro _
 refine cJ [10] [69,2,6] 9 [(69,aB (cU ((t.waiting.drop 0).take (kw - 0)) xw)),(2,.p 0 0),(6,aI (kw : Int))] <| kY 69 (cU ((t.waiting.drop 0).take (kw - 0)) xw) (fun h14 => ?_) (fun h14 => ?_)
 have hno := tableOk_w (l := l) hxw (wOne_no2 (by have e := hwp; rw [h14] at e; simpa using e))
 refine cQ [11,12,13,14] [73,72,70,69,2,6] 5 [(73,.v undef),(72,.v undef),(70,.v undef),(69,aB true)] <| xe_skip 15 ⟨[(74,.v undef),(73,.v undef),(72,.v undef),(70,.v undef),(69,aB true),(2,.p 0 0),(6,aI (kw : Int))],[⟨27,ba t (.slice Atc t.conns.length Ctc) (.slice Atw t.waiting.length Ctw)⟩,⟨43,c9 l⟩],[[iI xw.ip,iI xw.port,iI xw.my],[iI xw.ip,iI xw.port,iI xw.my]],[aX (.slice Atc t.conns.length Ctc) 25 (t.conns.map az),bi t.conns,aX (.slice Atw t.waiting.length Ctw) 3 (t.waiting.map a5)]⟩ rfl (by kernel_rfl) (by kernel_rfl) (by kernel_rfl) (fun _ _ h => h) (by kernel_rfl) rfl (by kernel_rfl) ?_
 refine cQ [16,17,18,19] [78,2,6] 0 [(78,aB true)] <| kZ <| kT <| kQ <| aE [4] [(4,aB false)] ?_
 refine kR ?_
 exact ⟨[.bool false],by kernel_rfl,fun w' hb hf => ⟨aQ (show (false : Bool) = cq t l from by first | exact hno.symm | (exact (dE (by simpa using h1) (by omega) (by omega) hallC hgew HKw).symm) | (exact (dD (by simpa using h1)).symm) | (exact (dG (by omega)).symm) | (exact (dW (by omega)).symm)),hb⟩⟩
 have hy2 : db t.waiting xw = (kw : Int) := by have e := hwp; rw [h14] at e; simpa using e
 refine cQ [11,12,13,14] [73,72,70,69,2,6] 5 [(73,aI (kw : Int)),(72,.v (.slice Atw t.waiting.length Ctw)),(70,.v (.agg (ba t (.slice Atc t.conns.length Ctc) (.slice Atw t.waiting.length Ctw)).toArray)),(69,aB false)] <| cM (kd := .i64) (T := 25) (e := 32) (K := 3) (j := kw) (A := Atw) (len := t.waiting.length) (cap := Ctw) 15 1 _ rfl (by kernel_rfl) (by kernel_rfl) (by kernel_rfl) (fun _ _ h => h) (by kernel_rfl) rfl rfl (by kernel_rfl) (by kernel_rfl) (by kernel_rfl) (by kernel_rfl) hltw hAq12 hq13.2 (by kernel_rfl) rfl ?_
 refine cQ [16] [75,70,69,2,6] 3 [(75,.v (.agg (bt xw).toArray))] <| kA [17] <| cE 17 29 [.agg (ba t (.slice Atc t.conns.length Ctc) (.slice Atw t.waiting.length Ctw)).toArray,.agg (bt xw).toArray] (some 76) rfl (bu fun ww hf => gJ t (.slice Atc t.conns.length Ctc) (.slice Atw t.waiting.length Ctw) xw ww (hf _ m0) (hf _ m1) (hf _ m2) ) ?_
 intro _
 refine cQ [18,19] [78,2,6] 0 [(78,aB (decide ((aK t xw) < 0)))] <| kZ <| kC (decide ((aK t xw) < 0)) (fun h15 => ?_) (fun h15 => ?_)
 have h15p := of_decide_eq_true h15
 have hno := tableOk_w (l := l) hxw (wOne_no1 (by simpa using h15))
 refine kQ <| aE [4] [(4,aB false)] <| kR ?_
 exact ⟨[.bool false],by kernel_rfl,fun w' hb hf => ⟨aQ (show (false : Bool) = cq t l from by first | exact hno.symm | (exact (dE (by simpa using h1) (by omega) (by omega) hallC hgew HKw).symm) | (exact (dD (by simpa using h1)).symm) | (exact (dG (by omega)).symm) | (exact (dW (by omega)).symm)),hb⟩⟩
 have h15p := of_decide_eq_false h15
 have hy1 : ¬ aK t xw < 0 := by simpa using h15
 refine kK <| kG <| dl 3 [2,6] [(6,aI (K6.wrap ((kw : Int) + 1)))] <| bE [2,6] [(6,aI (K6.wrap ((kw : Int) + 1)))] [(6,aI ((kw : Int) + 1))] (by rw [show (K6.wrap ((kw : Int) + 1)) = ((kw : Int) + 1) from ao (by omega) (by omega)]) (by kernel_rfl) ?_
 refine aY [2,6] [] ?_
 exact ⟨⟨(kw + 1),⟨by omega,all_step (p := wOne t) hxw (wOne_yes hy1 hy2) HKw⟩⟩,kF 2 0 [2,6],by show t.waiting.length - (kw + 1) < t.waiting.length - kw; omega⟩
 have h10p := of_decide_eq_false h10
 have hgew : kw = t.waiting.length := by simp at h10; omega
 refine bY <| kQ <| aE [4] [(4,aB true)] <| kR ?_
 exact ⟨[.bool true],by kernel_rfl,fun w' hb hf => ⟨aQ (show (true : Bool) = cq t l from by first | exact hno.symm | (exact (dE (by simpa using h1) (by omega) (by omega) hallC hgew HKw).symm) | (exact (dD (by simpa using h1)).symm) | (exact (dG (by omega)).symm) | (exact (dW (by omega)).symm)),hb⟩⟩
theorem ysSameTable_c (a : Tab) (a_connsV : Value) (a_waitingV : Value) (b : Tab) (b_connsV : Value) (b_waitingV : Value) (w : World) (hl_a_connsV : Sl w a_connsV 25 (a.conns.map az)) (hh_a_connsV : ∀ x ∈ a.conns, Sl w x.2 2 (x.1.r.held.map pC)) (hl_a_waitingV : Sl w a_waitingV 3 (a.waiting.map a5)) (hl_b_connsV : Sl w b_connsV 25 (b.conns.map az)) (hh_b_connsV : ∀ x ∈ b.conns, Sl w x.2 2 (x.1.r.held.map pC)) (hl_b_waitingV : Sl w b_waitingV 3 (b.waiting.map a5))  : Calls Tryz.prog 8 #[.agg (ba a a_connsV a_waitingV).toArray, .agg (ba b b_connsV b_waitingV).toArray] w fun e w' => e = .returned (.bool (aM a b)) ∧ Below w.heap.size w w' := by
 obtain ⟨Aac,Cac,hvac⟩ := hl_a_connsV.form
 rw [List.length_map] at hvac; subst hvac
 have hnac := hl_a_connsV.len; rw [List.length_map] at hnac
 have hqac := Sl.capLe hl_a_connsV
 obtain ⟨Aaw,Caw,hvaw⟩ := hl_a_waitingV.form
 rw [List.length_map] at hvaw; subst hvaw
 have hnaw := hl_a_waitingV.len; rw [List.length_map] at hnaw
 have hqaw := Sl.capLe hl_a_waitingV
 obtain ⟨Abc,Cbc,hvbc⟩ := hl_b_connsV.form
 rw [List.length_map] at hvbc; subst hvbc
 have hnbc := hl_b_connsV.len; rw [List.length_map] at hnbc
 have hqbc := Sl.capLe hl_b_connsV
 obtain ⟨Abw,Cbw,hvbw⟩ := hl_b_waitingV.form
 rw [List.length_map] at hvbw; subst hvbw
 have hnbw := hl_b_waitingV.len; rw [List.length_map] at hnbw
 have hqbw := Sl.capLe hl_b_waitingV
 refine bL (args := [.agg (ba a (.slice Aac a.conns.length Cac) (.slice Aaw a.waiting.length Caw)).toArray,.agg (ba b (.slice Abc b.conns.length Cbc) (.slice Abw b.waiting.length Cbw)).toArray]) (fn := Tryz.f8) [aX (.slice Aac a.conns.length Cac) 25 (a.conns.map az),bi a.conns,aX (.slice Aaw a.waiting.length Caw) 3 (a.waiting.map a5),aX (.slice Abc b.conns.length Cbc) 25 (b.conns.map az),bi b.conns,aX (.slice Abw b.waiting.length Cbw) 3 (b.waiting.map a5)] Tryz.func8 rfl Tryz.ntmps8 rfl (by simp only [List.mem_cons,List.not_mem_nil,or_false,forall_eq_or_imp,forall_eq]; exact ⟨⟨rfl,hl_a_connsV⟩,⟨rfl,hh_a_connsV⟩,⟨rfl,hl_a_waitingV⟩,⟨rfl,hl_b_connsV⟩,⟨rfl,hh_b_connsV⟩,⟨rfl,hl_b_waitingV⟩⟩) ?_
 refine kQ <| cy [2,3] ⟨[(2,.p 0 0),(3,.p 1 0)],[⟨27,ba a (.slice Aac a.conns.length Cac) (.slice Aaw a.waiting.length Caw)⟩,⟨27,ba b (.slice Abc b.conns.length Cbc) (.slice Abw b.waiting.length Cbw)⟩],[],[aX (.slice Aac a.conns.length Cac) 25 (a.conns.map az),bi a.conns,aX (.slice Aaw a.waiting.length Caw) 3 (a.waiting.map a5),aX (.slice Abc b.conns.length Cbc) 25 (b.conns.map az),bi b.conns,aX (.slice Abw b.waiting.length Cbw) 3 (b.waiting.map a5)]⟩ <| kS <| kQ <| dl 8 [2,3,14] [(14,aB (((a.conns.length : Nat) : Int) != ((b.conns.length : Nat) : Int)))] ?_
 refine kP 14 (((a.conns.length : Nat) : Int) != ((b.conns.length : Nat) : Int)) (fun h1 => ?_) (fun h1 => ?_)
 have h1p := neT h1
 refine aY [2,3,22] [(22,aB true)] <| kT <| kQ <| aE [4] [(4,aB false)] ?_
 refine kR ?_
 exact ⟨[.bool false],by kernel_rfl,fun w' hb hf => ⟨aQ (show (false : Bool) = aM a b from by first | (unfold aM; rw [hno]; rfl) | (unfold aM; rw [hnow]; simp) | (unfold aM; rw [hall,hallw]; rfl) | (unfold aM; rw [dv (a := a.conns) (by omega)]; rfl) | (unfold aM; rw [dv (a := a.waiting) (by omega)]; simp)),hb⟩⟩
 have h1p := neF h1
 refine aY [2,3,22] [(22,aB (((a.waiting.length : Nat) : Int) != ((b.waiting.length : Nat) : Int)))] <| kC (((a.waiting.length : Nat) : Int) != ((b.waiting.length : Nat) : Int)) (fun h2 => ?_) (fun h2 => ?_)
 have h2p := neT h2
 refine kQ <| aE [4] [(4,aB false)] <| kR ?_
 exact ⟨[.bool false],by kernel_rfl,fun w' hb hf => ⟨aQ (show (false : Bool) = aM a b from by first | (unfold aM; rw [hno]; rfl) | (unfold aM; rw [hnow]; simp) | (unfold aM; rw [hall,hallw]; rfl) | (unfold aM; rw [dv (a := a.conns) (by omega)]; rfl) | (unfold aM; rw [dv (a := a.waiting) (by omega)]; simp)),hb⟩⟩
 have h2p := neF h2
 refine kK <| kS <| kQ <| aY [2,3,5] [(5,aI 0)] ?_
 refine ap ?_
 have hlen : a.conns.length = b.conns.length := by omega
 refine bo (α := {x : Nat // (fun (k : Nat) => k ≤ a.conns.length ∧ ∀ (i : Nat) (x y : CV),i < k → a.conns[i]? = some x → b.conns[i]? = some y → dX x.1 y.1 = true) x}) (fun x => (fun (k : Nat) => (⟨[(2,.p 0 0),(3,.p 1 0),(5,aI (k : Int))],[⟨27,ba a (.slice Aac a.conns.length Cac) (.slice Aaw a.waiting.length Caw)⟩,⟨27,ba b (.slice Abc b.conns.length Cbc) (.slice Abw b.waiting.length Cbw)⟩],[],[aX (.slice Aac a.conns.length Cac) 25 (a.conns.map az),bi a.conns,aX (.slice Aaw a.waiting.length Caw) 3 (a.waiting.map a5),aX (.slice Abc b.conns.length Cbc) 25 (b.conns.map az),bi b.conns,aX (.slice Abw b.waiting.length Cbw) 3 (b.waiting.map a5)]⟩ : St)) x.1) (fun x => a.conns.length - x.1) ⟨(0),⟨Nat.zero_le _,fun i x y hi => by omega⟩⟩ (kF 2 0 [2,3,5]) ?_
 rintro ⟨k,hk,HK⟩
 try dsimp only
 try dsimp only at hk HK
 refine kS <| kQ <| aY [2,3,5,27] [(27,aB (decide ((k : Int) < ((a.conns.length : Nat) : Int))))] <| kC (decide ((k : Int) < ((a.conns.length : Nat) : Int))) (fun h3 => ?_) (fun h3 => ?_)
 have h3p := of_decide_eq_true h3
 have hlt : k < a.conns.length := by simpa using h3
 obtain ⟨x0,hx⟩ : ∃ x,a.conns[k]? = some x := ⟨_,List.getElem?_eq_getElem hlt⟩
 obtain ⟨x,xa,xc,rfl⟩ := fz (hh_a_connsV x0 (List.mem_of_getElem? hx))
 obtain ⟨y0,hy⟩ : ∃ y,b.conns[k]? = some y := ⟨_,List.getElem?_eq_getElem (by omega)⟩
 obtain ⟨y,ya,yc,rfl⟩ := fz (hh_b_connsV y0 (List.mem_of_getElem? hy))
 refine kK <| kS <| ap <| kS <| dx ?_
 refine dr (K := 25) (j := k) [iI x.t.ip,iI x.t.port,iI x.t.my,iI x.state,iI x.s.una,.string x.s.data,iI x.s.sent,.bool x.s.fin,.bool x.s.finSent,.bool x.s.done,iI x.r.next,.string x.r.data,.slice xa x.r.held.length xc,iI x.r.fin,.bool x.r.done,iI x.window,iI x.most,iI x.o.mss,iI x.o.scale,.bool x.o.sack,.bool x.o.stamp,iI x.o.val,iI x.o.echo,iI x.timer,iI x.tries] (aX (.slice Aac a.conns.length Cac) 25 (a.conns.map az)) (fun _ _ h => h) (by simp) (fun w h => h) (fun b h => h) (by simp only [List.getElem?_map,hx]; rfl) (fun bq4 offq4 hAq4 => ?_)
 refine dr (K := 25) (j := k) [iI y.t.ip,iI y.t.port,iI y.t.my,iI y.state,iI y.s.una,.string y.s.data,iI y.s.sent,.bool y.s.fin,.bool y.s.finSent,.bool y.s.done,iI y.r.next,.string y.r.data,.slice ya y.r.held.length yc,iI y.r.fin,.bool y.r.done,iI y.window,iI y.most,iI y.o.mss,iI y.o.scale,.bool y.o.sack,.bool y.o.stamp,iI y.o.val,iI y.o.echo,iI y.timer,iI y.tries] (aX (.slice Abc b.conns.length Cbc) 25 (b.conns.map az)) (fun _ _ h => h) (by simp) (fun w h => h) (fun b h => h) (by simp only [List.getElem?_map,hy]; rfl) (fun bq5 offq5 hAq5 => ?_)
 refine ca [] (by kernel_rfl) (fun ρ σ hq6 => ?_)
 refine cQ [0,1,2,5,6,7] [37,36,32,31,2,3,5] 6 [(37,aI (k : Int)),(36,.v (.slice Abc b.conns.length Cbc)),(32,aI (k : Int)),(31,.v (.slice Aac a.conns.length Cac))] <| cM (kd := .i64) (T := 24) (e := 41) (K := 25) (j := k) (A := Aac) (len := a.conns.length) (cap := Cac) 3 0 _ rfl (by kernel_rfl) (by kernel_rfl) (by kernel_rfl) (fun _ _ h => h) (by kernel_rfl) rfl rfl (by kernel_rfl) (by kernel_rfl) (by kernel_rfl) (by kernel_rfl) hlt hAq4 hq6.1.2 (by kernel_rfl) rfl ?_
 refine cQ [4] [34,37,36,2,3,5] 4 [(34,.v (.agg (a7 x (cS xa x xc)).toArray))] <| cM (kd := .i64) (T := 24) (e := 41) (K := 25) (j := k) (A := Abc) (len := b.conns.length) (cap := Cbc) 8 1 _ rfl (by kernel_rfl) (by kernel_rfl) (by kernel_rfl) (fun _ _ h => h) (by kernel_rfl) rfl rfl (by kernel_rfl) (by kernel_rfl) (by kernel_rfl) (by kernel_rfl) (by omega) hAq5 hq6.2 (by kernel_rfl) rfl ?_
 refine cQ [9] [39,34,2,3,5] 2 [(39,.v (.agg (a7 y (cS ya y yc)).toArray))] <| kA [10] <| cE 10 16 [.agg (a7 x (cS xa x xc)).toArray,.agg (a7 y (cS ya y yc)).toArray] (some 40) rfl (bu fun ww hf => ysSameConn_c x (cS xa x xc) y (cS ya y yc) ww ((hf _ m1) (x,.slice xa x.r.held.length xc) (List.mem_of_getElem? hx)) ((hf _ m4) (y,.slice ya y.r.held.length yc) (List.mem_of_getElem? hy)) ) ?_
 intro _
 refine cQ [11] [41,2,3,5] 0 [(41,aB (!(dX x y)))] <| kZ <| kC (!(dX x y)) (fun h7 => ?_) (fun h7 => ?_)
 have hno := sameL_no (eq := fun x y : CV => dX x.1 y.1) hx hy (by simpa using h7)
 refine kQ <| aE [4] [(4,aB false)] <| kR ?_
 exact ⟨[.bool false],by kernel_rfl,fun w' hb hf => ⟨aQ (show (false : Bool) = aM a b from by first | (unfold aM; rw [hno]; rfl) | (unfold aM; rw [hnow]; simp) | (unfold aM; rw [hall,hallw]; rfl) | (unfold aM; rw [dv (a := a.conns) (by omega)]; rfl) | (unfold aM; rw [dv (a := a.waiting) (by omega)]; simp)),hb⟩⟩
 have hye : dX x y = true := by simpa using h7
 refine kK <| kG <| dl 3 [2,3,5] [(5,aI (K6.wrap ((k : Int) + 1)))] <| bE [2,3,5] [(5,aI (K6.wrap ((k : Int) + 1)))] [(5,aI ((k : Int) + 1))] (by rw [show (K6.wrap ((k : Int) + 1)) = ((k : Int) + 1) from ao (by omega) (by omega)]) (by kernel_rfl) ?_
 refine aE [2,3,5] [(2,.p 0 0),(3,.p 1 0),(5,aI ((k : Int) + 1))] ?_
 exact ⟨⟨(k + 1),⟨by omega,same_step (eq := fun x y : CV => dX x.1 y.1) hx hy hye HK⟩⟩,kF 2 0 [2,3,5],by show a.conns.length - (k + 1) < a.conns.length - k; omega⟩
 have h3p := of_decide_eq_false h3
 have hge : k = a.conns.length := by simp at h3; omega
 have hall := gO (eq := fun x y : CV => dX x.1 y.1) hge hlen HK
 refine bY <| kS <| kQ <| aY [2,3,6] [(6,aI 0)] ?_
 refine ap ?_
 have hlenw : a.waiting.length = b.waiting.length := by omega
 refine bo (α := {x : Nat // (fun (kw : Nat) => kw ≤ a.waiting.length ∧ ∀ (i : Nat) (x y : Tup),i < kw → a.waiting[i]? = some x → b.waiting[i]? = some y → bd x y = true) x}) (fun x => (fun (kw : Nat) => (⟨[(2,.p 0 0),(3,.p 1 0),(6,aI (kw : Int))],[⟨27,ba a (.slice Aac a.conns.length Cac) (.slice Aaw a.waiting.length Caw)⟩,⟨27,ba b (.slice Abc b.conns.length Cbc) (.slice Abw b.waiting.length Cbw)⟩],[],[aX (.slice Aac a.conns.length Cac) 25 (a.conns.map az),bi a.conns,aX (.slice Aaw a.waiting.length Caw) 3 (a.waiting.map a5),aX (.slice Abc b.conns.length Cbc) 25 (b.conns.map az),bi b.conns,aX (.slice Abw b.waiting.length Cbw) 3 (b.waiting.map a5)]⟩ : St)) x.1) (fun x => a.waiting.length - x.1) ⟨(0),⟨Nat.zero_le _,fun i x y hi => by omega⟩⟩ (kF 2 0 [2,3,6]) ?_
 rintro ⟨kw,hkw,HKw⟩
 try dsimp only
 try dsimp only at hkw HKw
 refine kS <| kQ <| aY [2,3,6,46] [(46,aB (decide ((kw : Int) < ((a.waiting.length : Nat) : Int))))] <| kC (decide ((kw : Int) < ((a.waiting.length : Nat) : Int))) (fun h8 => ?_) (fun h8 => ?_)
 have h8p := of_decide_eq_true h8
 have hltw : kw < a.waiting.length := by simpa using h8
 obtain ⟨xw,hxw⟩ : ∃ x,a.waiting[kw]? = some x := ⟨_,List.getElem?_eq_getElem hltw⟩
 obtain ⟨yw,hyw⟩ : ∃ y,b.waiting[kw]? = some y := ⟨_,List.getElem?_eq_getElem (by omega)⟩
 refine kK <| kS <| ap <| kS <| dx ?_
 refine dr (K := 3) (j := kw) [iI xw.ip,iI xw.port,iI xw.my] (aX (.slice Aaw a.waiting.length Caw) 3 (a.waiting.map a5)) (fun _ _ h => h) (by simp) (fun w h => h) (fun b h => h) (by simp only [List.getElem?_map,hxw]; rfl) (fun bq9 offq9 hAq9 => ?_)
 refine dr (K := 3) (j := kw) [iI yw.ip,iI yw.port,iI yw.my] (aX (.slice Abw b.waiting.length Cbw) 3 (b.waiting.map a5)) (fun _ _ h => h) (by simp) (fun w h => h) (fun b h => h) (by simp only [List.getElem?_map,hyw]; rfl) (fun bq10 offq10 hAq10 => ?_)
 refine ca [] (by kernel_rfl) (fun ρ σ hq11 => ?_)
 refine cQ [0,1,2,5,6,7] [56,55,51,50,2,3,6] 5 [(56,aI (kw : Int)),(55,.v (.slice Abw b.waiting.length Cbw)),(51,aI (kw : Int)),(50,.v (.slice Aaw a.waiting.length Caw))] <| cM (kd := .i64) (T := 25) (e := 32) (K := 3) (j := kw) (A := Aaw) (len := a.waiting.length) (cap := Caw) 3 0 _ rfl (by kernel_rfl) (by kernel_rfl) (by kernel_rfl) (fun _ _ h => h) (by kernel_rfl) rfl rfl (by kernel_rfl) (by kernel_rfl) (by kernel_rfl) (by kernel_rfl) hltw hAq9 hq11.1.2 (by kernel_rfl) rfl ?_
 refine cQ [4] [53,56,55,2,3,6] 3 [(53,.v (.agg (bt xw).toArray))] <| cM (kd := .i64) (T := 25) (e := 32) (K := 3) (j := kw) (A := Abw) (len := b.waiting.length) (cap := Cbw) 8 1 _ rfl (by kernel_rfl) (by kernel_rfl) (by kernel_rfl) (fun _ _ h => h) (by kernel_rfl) rfl rfl (by kernel_rfl) (by kernel_rfl) (by kernel_rfl) (by kernel_rfl) (by omega) hAq10 hq11.2 (by kernel_rfl) rfl ?_
 refine cQ [9] [58,53,2,3,6] 1 [(58,.v (.agg (bt yw).toArray))] <| kX 10 (.bool (!bd xw yw)) rfl (fun _ _ ww hA => cb hA rfl (by kernel_rfl) (by kernel_rfl) (fZ (by kernel_rfl) (run_neq_TUP xw.ip xw.port xw.my yw.ip yw.port yw.my ww))) ?_
 refine kZ <| kC (!bd xw yw) (fun h12 => ?_) (fun h12 => ?_)
 have hnow := sameL_no hxw hyw (by simpa using h12)
 refine kQ <| aE [4] [(4,aB false)] <| kR ?_
 exact ⟨[.bool false],by kernel_rfl,fun w' hb hf => ⟨aQ (show (false : Bool) = aM a b from by first | (unfold aM; rw [hno]; rfl) | (unfold aM; rw [hnow]; simp) | (unfold aM; rw [hall,hallw]; rfl) | (unfold aM; rw [dv (a := a.conns) (by omega)]; rfl) | (unfold aM; rw [dv (a := a.waiting) (by omega)]; simp)),hb⟩⟩
 have hyew : bd xw yw = true := by simpa using h12
 refine kK <| kG <| eb 3 [2,3,6] [(2,.p 0 0),(3,.p 1 0),(6,aI (K6.wrap ((kw : Int) + 1)))] <| fD (t' := [(2,.p 0 0),(3,.p 1 0),(6,aI ((kw : Int) + 1))]) (by rw [show (K6.wrap ((kw : Int) + 1)) = ((kw : Int) + 1) from ao (by omega) (by omega)]) ?_
 refine aY [2,3,6] [] ?_
 exact ⟨⟨(kw + 1),⟨by omega,same_step hxw hyw hyew HKw⟩⟩,kF 2 0 [2,3,6],by show a.waiting.length - (kw + 1) < a.waiting.length - kw; omega⟩
 have h8p := of_decide_eq_false h8
 have hgew : kw = a.waiting.length := by simp at h8; omega
 have hallw := gO hgew hlenw HKw
 refine bY <| kQ <| aE [4] [(4,aB true)] <| kR ?_
 exact ⟨[.bool true],by kernel_rfl,fun w' hb hf => ⟨aQ (show (true : Bool) = aM a b from by first | (unfold aM; rw [hno]; rfl) | (unfold aM; rw [hnow]; simp) | (unfold aM; rw [hall,hallw]; rfl) | (unfold aM; rw [dv (a := a.conns) (by omega)]; rfl) | (unfold aM; rw [dv (a := a.waiting) (by omega)]; simp)),hb⟩⟩
theorem ysSegmentOk_c (g : Seg) (w : World) (hsz : g.body.size ≤ 4611686018427387904) : Calls Tryz.prog 122 #[.agg (cv g).toArray] w fun e w' => e = .returned (.bool (dZ g)) ∧ Below w.heap.size w w' := by
 refine bL (args := [.agg (cv g).toArray]) (fn := Tryz.f122) [] Tryz.func122 rfl Tryz.ntmps122 rfl (by simp) ?_
 refine kQ <| cy [1] ⟨[(1,.p 0 0)],[⟨105,cv g⟩],[],[]⟩ <| kS <| cn ⟨[(2,aB ((aL g.src 16) && ((aL g.dst 16) && ((aL g.window 16) && ((aL g.seq 32) && ((aL g.ack 32) && ((aL g.flags 6) && ((c7 g.o) && (decide ((g.body.size : Int) ≤ 1420))))))))))],[⟨105,cv g⟩],[],[]⟩ ?_ ?_
 refine kG <| em 2 [1,4] [(1,.p 0 0),(4,aI g.src)] 91 [iI g.src,iI 16] (some 5) rfl (cz fun ww hf => dF g.src ww) ?_
 intro _
 refine eb 1 [1,6] [(1,.p 0 0),(6,aB (aL g.src 16))] <| kP 6 (aL g.src 16) (fun h1 => ?_) (fun h1 => ?_)
 refine em 2 [1,6,8] [(1,.p 0 0),(6,aB true),(8,aI g.dst)] 91 [iI g.dst,iI 16] (some 9) rfl (cz fun ww hf => dF g.dst ww) ?_
 intro _
 refine eb 2 [1,11] [(1,.p 0 0),(11,aB (aL g.dst 16))] <| kP 11 (aL g.dst 16) (fun h2 => ?_) (fun h2 => ?_)
 refine em 2 [1,11,13] [(1,.p 0 0),(11,aB true),(13,aI g.window)] 91 [iI g.window,iI 16] (some 14) rfl (cz fun ww hf => dF g.window ww) ?_
 intro _
 refine eb 2 [1,16] [(1,.p 0 0),(16,aB (aL g.window 16))] <| kP 16 (aL g.window 16) (fun h3 => ?_) (fun h3 => ?_)
 refine em 2 [1,16,18] [(1,.p 0 0),(16,aB true),(18,aI g.seq)] 91 [iI g.seq,iI 32] (some 19) rfl (cz fun ww hf => eI g.seq ww) ?_
 intro _
 refine eb 2 [1,21] [(1,.p 0 0),(21,aB (aL g.seq 32))] <| kP 21 (aL g.seq 32) (fun h4 => ?_) (fun h4 => ?_)
 refine em 2 [1,21,23] [(1,.p 0 0),(21,aB true),(23,aI g.ack)] 91 [iI g.ack,iI 32] (some 24) rfl (cz fun ww hf => eI g.ack ww) ?_
 intro _
 refine eb 2 [1,26] [(1,.p 0 0),(26,aB (aL g.ack 32))] <| kP 26 (aL g.ack 32) (fun h5 => ?_) (fun h5 => ?_)
 refine em 2 [1,26,28] [(1,.p 0 0),(26,aB true),(28,aI g.flags)] 91 [iI g.flags,iI 6] (some 29) rfl (cz fun ww hf => gD g.flags ww) ?_
 intro _
 refine eb 2 [1,31] [(1,.p 0 0),(31,aB (aL g.flags 6))] <| kP 31 (aL g.flags 6) (fun h6 => ?_) (fun h6 => ?_)
 refine em 2 [1,31,33] [(1,.p 0 0),(31,aB true),(33,.v (.agg (e5 g.o).toArray))] 67 [.agg (e5 g.o).toArray] (some 34) rfl (bu fun ww hf => gT g.o.mss g.o.scale g.o.sack g.o.stamp g.o.val g.o.echo ww ) ?_
 intro _
 refine eb 2 [1,36] [(1,.p 0 0),(36,aB (c7 g.o))] <| kP 36 (c7 g.o) (fun h7 => ?_) (fun h7 => ?_)
 refine aE [2] [(2,aB (decide ((g.body.size : Int) ≤ 1420)))] ?_
 show Wk _ _
 try rw [h1]
 try rw [h2]
 try rw [h3]
 try rw [h4]
 try rw [h5]
 try rw [h6]
 try rw [h7]
 exact kF 1 0 [2]
 refine aE [2] [(2,aB false)] ?_
 show Wk _ _
 try rw [h1]
 try rw [h2]
 try rw [h3]
 try rw [h4]
 try rw [h5]
 try rw [h6]
 try rw [h7]
 exact kF 1 0 [2]
 refine aE [2] [(2,aB false)] ?_
 show Wk _ _
 try rw [h1]
 try rw [h2]
 try rw [h3]
 try rw [h4]
 try rw [h5]
 try rw [h6]
 exact kF 1 0 [2]
 refine aE [2] [(2,aB false)] ?_
 show Wk _ _
 try rw [h1]
 try rw [h2]
 try rw [h3]
 try rw [h4]
 try rw [h5]
 exact kF 1 0 [2]
 refine aE [2] [(2,aB false)] ?_
 show Wk _ _
 try rw [h1]
 try rw [h2]
 try rw [h3]
 try rw [h4]
 exact kF 1 0 [2]
 refine aE [2] [(2,aB false)] ?_
 show Wk _ _
 try rw [h1]
 try rw [h2]
 try rw [h3]
 exact kF 1 0 [2]
 refine aE [2] [(2,aB false)] ?_
 show Wk _ _
 try rw [h1]
 try rw [h2]
 exact kF 1 0 [2]
 refine aE [2] [(2,aB false)] ?_
 show Wk _ _
 try rw [h1]
 exact kF 1 0 [2]
 refine kR ?_
 exact ⟨[.bool ((aL g.src 16) && ((aL g.dst 16) && ((aL g.window 16) && ((aL g.seq 32) && ((aL g.ack 32) && ((aL g.flags 6) && ((c7 g.o) && (decide ((g.body.size : Int) ≤ 1420)))))))))],by kernel_rfl,fun w' hb hf => ⟨aQ (show ((aL g.src 16) && ((aL g.dst 16) && ((aL g.window 16) && ((aL g.seq 32) && ((aL g.ack 32) && ((aL g.flags 6) && ((c7 g.o) && (decide ((g.body.size : Int) ≤ 1420)))))))) : Bool) = dZ g from by first | rfl | (simp [dZ, *]; done) | (simp [dZ, *]; omega) | grind [cu,dZ]),hb⟩⟩
theorem fu (c : Con) (rV : Value) (w : World) (hZ : Sl w rV 2 (c.r.held.map pC)) (hsz : c.r.data.size ≤ 4611686018427387904) : Calls Tryz.prog 101 #[.agg (a7 c rV).toArray] w fun e w' => e = .returned (.agg #[iI c.t.my, iI c.t.port, iI (af c.s), iI c.r.next, iI 16, iI (wO c.r), iI 0, iI (-1), .bool false, .bool false, iI 0, iI 0, .string (⟨#[]⟩ : ByteArray)]) ∧ Below w.heap.size w w' := by
 obtain ⟨Z,Y,hY⟩ := hZ.form
 rw [List.length_map] at hY; subst hY
 have hJ := hZ.len; rw [List.length_map] at hJ
 have hqcrh := Sl.capLe hZ
 refine bL (args := [.agg (a7 c (cS Z c Y)).toArray]) (fn := Tryz.f101) [cH Z c Y] Tryz.func101 rfl Tryz.ntmps101 rfl (by simp only [List.mem_cons,List.not_mem_nil,or_false,forall_eq_or_imp,forall_eq]; exact ⟨rfl,hZ⟩) ?_
 refine kQ <| cy [1,2] ⟨[(1,.p 0 0),(2,.p 1 0)],[⟨41,a7 c (cS Z c Y)⟩,⟨105,eP⟩],[],[cH Z c Y]⟩ <| kS <| bP [true,false] (by kernel_rfl) (fun ρ σ => ?_)
 refine cJ [0,1,2,3,4,5,6,7,9,10,11,12,13] [16,14,10,8,5,2] 5 [(16,.v (.agg (aa c.r (cS Z c Y)).toArray)),(14,aI c.r.next),(10,.v (.agg (ai c.s).toArray)),(8,aI c.t.port),(5,aI c.t.my),(2,.p 1 0)] <| kA [8] <| cE 8 121 [.agg (ai c.s).toArray] (some 11) rfl (bu fun ww hf => sNextOf_c c.s.una c.s.data c.s.sent c.s.fin c.s.finSent c.s.done ww ) ?_
 intro _
 refine kA [14] <| cE 14 92 [.agg (aa c.r (cS Z c Y)).toArray] (some 17) rfl (bu fun ww hf => ee c.r.next c.r.data c.r.held (cS Z c Y) c.r.fin c.r.done ww (by omega)) ?_
 intro _
 refine kA [15] <| cE 15 94 [] (some 18) rfl (bu fun ww hf => eC  ww ) ?_
 intro _
 refine kX 16 (.agg #[iI c.t.my,iI c.t.port,iI (af c.s),iI c.r.next,iI 16,iI (wO c.r),iI 0,iI (-1),.bool false,.bool false,iI 0,iI 0,.string (⟨#[]⟩ : ByteArray)]) rfl (fun _ _ ww hA => aA [(0,iI c.t.my),(1,iI c.t.port),(2,iI (af c.s)),(3,iI c.r.next),(4,iI 16),(5,iI (wO c.r)),(6,.agg #[iI 0,iI (-1),.bool false,.bool false,iI 0,iI 0])] hA rfl (by kernel_rfl) (by kernel_rfl) ww) ?_
 refine kA [17] <| du 17 1 0 [iI c.t.my,iI c.t.port,iI (af c.s),iI c.r.next,iI 16,iI (wO c.r),iI 0,iI (-1),.bool false,.bool false,iI 0,iI 0,.string (⟨#[]⟩ : ByteArray)] rfl <| kZ <| kR ?_
 exact ⟨[.agg #[iI c.t.my,iI c.t.port,iI (af c.s),iI c.r.next,iI 16,iI (wO c.r),iI 0,iI (-1),.bool false,.bool false,iI 0,iI 0,.string (⟨#[]⟩ : ByteArray)]],by kernel_rfl,fun w' hb hf => ⟨rfl,hb⟩⟩
theorem ysAcceptable_c (c : Con) (rV : Value) (g : Seg) (w : World) (hZ : Sl w rV 2 (c.r.held.map pC)) (hsz : c.r.data.size ≤ 4611686018427387904) (hgz : g.body.size ≤ 1048576) : Calls Tryz.prog 124 #[.agg (a7 c rV).toArray, .agg (cv g).toArray] w fun e w' => e = .returned (.bool (dn c g)) ∧ Below w.heap.size w w' := by
 have hlz := segLen_le hgz
 obtain ⟨Z,Y,hY⟩ := hZ.form
 rw [List.length_map] at hY; subst hY
 have hJ := hZ.len; rw [List.length_map] at hJ
 have hqcrh := Sl.capLe hZ
 refine bL (args := [.agg (a7 c (cS Z c Y)).toArray,.agg (cv g).toArray]) (fn := Tryz.f124) [cH Z c Y] Tryz.func124 rfl Tryz.ntmps124 rfl (by simp only [List.mem_cons,List.not_mem_nil,or_false,forall_eq_or_imp,forall_eq]; exact ⟨rfl,hZ⟩) ?_
 refine kQ <| cy [2,3] ⟨[(2,.p 0 0),(3,.p 1 0)],[⟨41,a7 c (cS Z c Y)⟩,⟨105,cv g⟩],[],[cH Z c Y]⟩ <| kQ <| em 1 [2,3,7] [(2,.p 0 0),(3,.p 1 0),(7,.v (.agg (cv g).toArray))] 107 [.agg (cv g).toArray] (some 8) rfl (bu fun ww hf => gf g.src g.dst g.seq g.ack g.flags g.window g.o.mss g.o.scale g.o.sack g.o.stamp g.o.val g.o.echo g.body ww (by omega)) ?_
 intro _
 refine aE [2,3,5] [(2,.p 0 0),(3,.p 1 0),(5,aI (d7 g))] <| kQ <| em 2 [2,3,5,10] [(2,.p 0 0),(3,.p 1 0),(5,aI (d7 g)),(10,.v (.agg (aa c.r (cS Z c Y)).toArray))] 92 [.agg (aa c.r (cS Z c Y)).toArray] (some 11) rfl (bu fun ww hf => ee c.r.next c.r.data c.r.held (cS Z c Y) c.r.fin c.r.done ww (by omega)) ?_
 intro _
 refine aE [2,3,5,6] [(2,.p 0 0),(3,.p 1 0),(5,aI (d7 g)),(6,aI (wO c.r))] <| kS <| kQ <| aE [2,3,5,6,13] [(2,.p 0 0),(3,.p 1 0),(5,aI (d7 g)),(6,aI (wO c.r)),(13,aB ((d7 g) == 0))] ?_
 refine kC ((d7 g) == 0) (fun h1 => ?_) (fun h1 => ?_)
 have h1p := cD h1
 refine kS <| cn ⟨[(4,aB (((aU g.seq c.r.next) == 0) || (cj g.seq c.r.next (wO c.r))))],[⟨41,a7 c (cS Z c Y)⟩,⟨105,cv g⟩],[],[cH Z c Y]⟩ ?_ ?_
 refine kG <| em 5 [2,3,6,15,18] [(2,.p 0 0),(3,.p 1 0),(6,aI (wO c.r)),(15,aI g.seq),(18,aI c.r.next)] 128 [iI g.seq,iI c.r.next] (some 19) rfl (cz fun ww hf => sSeqDiff_c g.seq c.r.next ww ) ?_
 intro _
 refine eb 2 [2,3,6,21] [(2,.p 0 0),(3,.p 1 0),(6,aI (wO c.r)),(21,aB ((aU g.seq c.r.next) == 0))] <| kP 21 ((aU g.seq c.r.next) == 0) (fun h2 => ?_) (fun h2 => ?_)
 have h2p := cD h2
 refine aE [4] [(4,aB true)] ?_
 show Wk _ _
 try rw [h2]
 exact kF 2 0 [4]
 have h2p := cA h2
 refine em 6 [21,23,26,27] [(21,aB false),(23,aI g.seq),(26,aI c.r.next),(27,aI (wO c.r))] 123 [iI g.seq,iI c.r.next,iI (wO c.r)] (some 28) rfl (cz fun ww hf => sInWindow_c g.seq c.r.next (wO c.r) ww ) ?_
 intro _
 refine aE [4] [(4,aB (cj g.seq c.r.next (wO c.r)))] ?_
 show Wk _ _
 try rw [h2]
 exact kF 2 0 [4]
 refine kR ?_
 exact ⟨[.bool (((aU g.seq c.r.next) == 0) || (cj g.seq c.r.next (wO c.r)))],by kernel_rfl,fun w' hb hf => ⟨aQ (show (((aU g.seq c.r.next) == 0) || (cj g.seq c.r.next (wO c.r)) : Bool) = dn c g from by first | rfl | (simp [dn, *]; done) | grind [dn]),hb⟩⟩
 have h1p := cA h1
 refine kK <| kQ <| em 7 [31,32,35,36] [(31,aI g.seq),(32,aI (d7 g)),(35,aI c.r.next),(36,aI (wO c.r))] 132 [iI g.seq,iI (d7 g),iI c.r.next,iI (wO c.r)] (some 37) rfl (cz fun ww hf => sOverlaps_c g.seq (d7 g) c.r.next (wO c.r) ww (by omega)) ?_
 intro _
 refine aE [4] [(4,aB (dM g.seq (d7 g) c.r.next (wO c.r)))] <| kR ?_
 exact ⟨[.bool (dM g.seq (d7 g) c.r.next (wO c.r))],by kernel_rfl,fun w' hb hf => ⟨aQ (show (dM g.seq (d7 g) c.r.next (wO c.r) : Bool) = dn c g from by first | rfl | (simp [dn, *]; done) | grind [dn]),hb⟩⟩
theorem ysVerdict_c (c : Con) (rV : Value) (g : Seg) (w : World) (hZ : Sl w rV 2 (c.r.held.map pC)) (hgz : g.body.size ≤ 1048576) (hm : ∀ p ∈ c.r.held, p.text.size ≤ 1048576) (hsz : c.r.data.size ≤ 4611686018427387904) : Calls Tryz.prog 104 #[.agg (a7 c rV).toArray, .agg (cv g).toArray] w fun e w' => e = .returned (iI (av c g)) ∧ Below w.heap.size w w' := by
 obtain ⟨Z,Y,hY⟩ := hZ.form
 rw [List.length_map] at hY; subst hY
 have hJ := hZ.len; rw [List.length_map] at hJ
 have hqcrh := Sl.capLe hZ
 refine bL (args := [.agg (a7 c (cS Z c Y)).toArray,.agg (cv g).toArray]) (fn := Tryz.f104) [cH Z c Y] Tryz.func104 rfl Tryz.ntmps104 rfl (by simp only [List.mem_cons,List.not_mem_nil,or_false,forall_eq_or_imp,forall_eq]; exact ⟨rfl,hZ⟩) ?_
 refine kQ <| cy [2,3] ⟨[(2,.p 0 0),(3,.p 1 0)],[⟨41,a7 c (cS Z c Y)⟩,⟨105,cv g⟩],[],[cH Z c Y]⟩ <| kS <| ap <| kS <| cn ⟨[(2,.p 0 0),(3,.p 1 0),(5,aB ((!(bv c)) || ((c.state == 8) || (!(dZ g)))))],[⟨41,a7 c (cS Z c Y)⟩,⟨105,cv g⟩],[],[cH Z c Y]⟩ ?_ ?_
 refine kG <| em 1 [2,3,6] [(2,.p 0 0),(3,.p 1 0),(6,.v (.agg (a7 c (cS Z c Y)).toArray))] 37 [.agg (a7 c (cS Z c Y)).toArray] (some 7) rfl (bu fun ww hf => e0 c (cS Z c Y) ww (hf _ m0) (by assumption) (by omega)) ?_
 intro _
 refine eb 2 [2,3,9] [(2,.p 0 0),(3,.p 1 0),(9,aB (!(bv c)))] <| kP 9 (!(bv c)) (fun h1 => ?_) (fun h1 => ?_)
 have h1n := cd h1
 refine aE [2,3,5] [(2,.p 0 0),(3,.p 1 0),(5,aB true)] ?_
 show Wk _ _
 try rw [h1]
 exact kF 2 0 [2,3,5]
 have h1n := bS h1
 refine eb 5 [2,3,14] [(2,.p 0 0),(3,.p 1 0),(14,aB (c.state == 8))] <| kP 14 (c.state == 8) (fun h2 => ?_) (fun h2 => ?_)
 have h2p := cD h2
 refine aE [2,3,5] [(2,.p 0 0),(3,.p 1 0),(5,aB true)] ?_
 show Wk _ _
 try rw [h1]
 try rw [h2]
 exact kF 2 0 [2,3,5]
 have h2p := cA h2
 refine em 1 [2,3,14,15] [(2,.p 0 0),(3,.p 1 0),(14,aB false),(15,.v (.agg (cv g).toArray))] 122 [.agg (cv g).toArray] (some 16) rfl (bu fun ww hf => ysSegmentOk_c g ww (by first | omega | exact Nat.zero_le _)) ?_
 intro _
 refine aE [2,3,5] [(2,.p 0 0),(3,.p 1 0),(5,aB (!(dZ g)))] ?_
 show Wk _ _
 try rw [h1]
 try rw [h2]
 exact kF 2 0 [2,3,5]
 refine kC ((!(bv c)) || ((c.state == 8) || (!(dZ g)))) (fun h3 => ?_) (fun h3 => ?_)
 refine kQ <| aE [4] [(4,aI 1)] <| kR ?_
 have hmod : av c g = 1 := by first | rfl | (simp [av, *]; done) | grind [av]
 exact ⟨[iI 1],by kernel_rfl,fun w' hb hf => by rw [hmod]; exact ⟨rfl,hb⟩⟩
 have h3l := gR h3
 have h3ln := bS h3l
 have h3r := gI h3
 have h3rl := gR h3r
 have h3rlp := cA h3rl
 have h3rr := gI h3r
 have h3rrn := bS h3rr
 refine kS <| cn ⟨[(2,.p 0 0),(3,.p 1 0),(19,aB ((cB g.flags 4) && (g.seq == c.r.next)))],[⟨41,a7 c (cS Z c Y)⟩,⟨105,cv g⟩],[],[cH Z c Y]⟩ ?_ ?_
 refine kG <| em 1 [2,3,20] [(2,.p 0 0),(3,.p 1 0),(20,.v (.agg (cv g).toArray))] 105 [.agg (cv g).toArray,iI 4] (some 21) rfl (bu fun ww hf => sHas_c g.src g.dst g.seq g.ack g.flags g.window g.o.mss g.o.scale g.o.sack g.o.stamp g.o.val g.o.echo g.body 4 ww ) ?_
 intro _
 refine eb 1 [2,3,22] [(2,.p 0 0),(3,.p 1 0),(22,aB (cB g.flags 4))] <| kP 22 (cB g.flags 4) (fun h4 => ?_) (fun h4 => ?_)
 refine aE [2,3,19] [(2,.p 0 0),(3,.p 1 0),(19,aB (g.seq == c.r.next))] ?_
 show Wk _ _
 try rw [h4]
 exact kF 2 0 [2,3,19]
 refine aE [2,3,19] [(2,.p 0 0),(3,.p 1 0),(19,aB false)] ?_
 show Wk _ _
 try rw [h4]
 exact kF 2 0 [2,3,19]
 refine kC ((cB g.flags 4) && (g.seq == c.r.next)) (fun h5 => ?_) (fun h5 => ?_)
 have h5l := and_l h5
 have h5r := and_r h5
 have h5rp := cD h5r
 refine kQ <| aE [4] [(4,aI 2)] <| kR ?_
 have hmod : av c g = 2 := by first | rfl | (simp [av, *]; done) | grind [av]
 exact ⟨[iI 2],by kernel_rfl,fun w' hb hf => by rw [hmod]; exact ⟨rfl,hb⟩⟩
 refine kS <| cn ⟨[(2,.p 0 0),(3,.p 1 0),(30,aB ((cB g.flags 4) && (cj g.seq c.r.next (wO c.r))))],[⟨41,a7 c (cS Z c Y)⟩,⟨105,cv g⟩],[],[cH Z c Y]⟩ ?_ ?_
 refine bP [] (by kernel_rfl) (fun ρ σ => ?_)
 refine cJ [0] [31,2,3] 13 [(31,.v (.agg (cv g).toArray)),(2,.p 0 0),(3,.p 1 0)] <| kA [1] <| cE 1 105 [.agg (cv g).toArray,iI 4] (some 32) rfl (bu fun ww hf => sHas_c g.src g.dst g.seq g.ack g.flags g.window g.o.mss g.o.scale g.o.sack g.o.stamp g.o.val g.o.echo g.body 4 ww ) ?_
 intro _
 refine cJ [2] [33,2,3] 11 [(33,aB (cB g.flags 4)),(2,.p 0 0),(3,.p 1 0)] <| kY 33 (cB g.flags 4) (fun h6 => ?_) (fun h6 => ?_)
 refine cJ [3,4,5,6,7,8,9] [40,38,35,33,2,3] 4 [(40,.v (.agg (aa c.r (cS Z c Y)).toArray)),(38,aI c.r.next),(35,aI g.seq),(33,aB true),(2,.p 0 0),(3,.p 1 0)] <| kA [10] <| cE 10 92 [.agg (aa c.r (cS Z c Y)).toArray] (some 41) rfl (bu fun ww hf => ee c.r.next c.r.data c.r.held (cS Z c Y) c.r.fin c.r.done ww (by omega)) ?_
 intro _
 refine kA [11] <| cE 11 123 [iI g.seq,iI c.r.next,iI (wO c.r)] (some 42) rfl (cz fun ww hf => sInWindow_c g.seq c.r.next (wO c.r) ww ) ?_
 intro _
 refine cJ [12,13] [30,2,3] 0 [(30,aB (cj g.seq c.r.next (wO c.r))),(2,.p 0 0),(3,.p 1 0)] <| kZ ?_
 show Wk _ _
 try rw [h6]
 exact kF 2 0 [2,3,30]
 refine cJ [3,4,5,6,7,8,9,10,11,12,13] [30,2,3] 0 [(30,aB false),(2,.p 0 0),(3,.p 1 0)] <| kZ ?_
 show Wk _ _
 try rw [h6]
 exact kF 2 0 [2,3,30]
 refine kC ((cB g.flags 4) && (cj g.seq c.r.next (wO c.r))) (fun h7 => ?_) (fun h7 => ?_)
 have h7l := and_l h7
 have h7r := and_r h7
 refine kQ <| aE [4] [(4,aI 3)] <| kR ?_
 have hmod : av c g = 3 := by first | rfl | (simp [av, *]; done) | grind [av]
 exact ⟨[iI 3],by kernel_rfl,fun w' hb hf => by rw [hmod]; exact ⟨rfl,hb⟩⟩
 refine kQ <| em 1 [2,3,45] [(2,.p 0 0),(3,.p 1 0),(45,.v (.agg (cv g).toArray))] 105 [.agg (cv g).toArray,iI 4] (some 46) rfl (bu fun ww hf => sHas_c g.src g.dst g.seq g.ack g.flags g.window g.o.mss g.o.scale g.o.sack g.o.stamp g.o.val g.o.echo g.body 4 ww ) ?_
 intro _
 refine aE [2,3,44] [(2,.p 0 0),(3,.p 1 0),(44,aB (cB g.flags 4))] <| kC (cB g.flags 4) (fun h8 => ?_) (fun h8 => ?_)
 refine kQ <| aE [4] [(4,aI 1)] <| kR ?_
 have hmod : av c g = 1 := by first | rfl | (simp [av, *]; done) | grind [av]
 exact ⟨[iI 1],by kernel_rfl,fun w' hb hf => by rw [hmod]; exact ⟨rfl,hb⟩⟩
 refine kQ <| em 1 [2,3,48] [(2,.p 0 0),(3,.p 1 0),(48,.v (.agg (cv g).toArray))] 105 [.agg (cv g).toArray,iI 2] (some 49) rfl (bu fun ww hf => sHas_c g.src g.dst g.seq g.ack g.flags g.window g.o.mss g.o.scale g.o.sack g.o.stamp g.o.val g.o.echo g.body 2 ww ) ?_
 intro _
 refine aE [2,3,47] [(2,.p 0 0),(3,.p 1 0),(47,aB (cB g.flags 2))] <| kC (cB g.flags 2) (fun h9 => ?_) (fun h9 => ?_)
 refine kQ <| aE [4] [(4,aI 3)] <| kR ?_
 have hmod : av c g = 3 := by first | rfl | (simp [av, *]; done) | grind [av]
 exact ⟨[iI 3],by kernel_rfl,fun w' hb hf => by rw [hmod]; exact ⟨rfl,hb⟩⟩
 refine kQ <| em 2 [2,3,51,52] [(2,.p 0 0),(3,.p 1 0),(51,.v (.agg (a7 c (cS Z c Y)).toArray)),(52,.v (.agg (cv g).toArray))] 124 [.agg (a7 c (cS Z c Y)).toArray,.agg (cv g).toArray] (some 53) rfl (bu fun ww hf => ysAcceptable_c c (cS Z c Y) g ww (hf _ m0) (by first | omega | (dsimp only; omega)) (by first | omega | assumption)) ?_
 intro _
 refine aE [2,3,50] [(2,.p 0 0),(3,.p 1 0),(50,aB (!(dn c g)))] <| kC (!(dn c g)) (fun h10 => ?_) (fun h10 => ?_)
 have h10n := cd h10
 refine kQ <| aE [4] [(4,aI 4)] <| kR ?_
 have hmod : av c g = 4 := by first | rfl | (simp [av, *]; done) | grind [av]
 exact ⟨[iI 4],by kernel_rfl,fun w' hb hf => by rw [hmod]; exact ⟨rfl,hb⟩⟩
 have h10n := bS h10
 refine kQ <| em 1 [2,3,56] [(2,.p 0 0),(3,.p 1 0),(56,.v (.agg (cv g).toArray))] 105 [.agg (cv g).toArray,iI 16] (some 57) rfl (bu fun ww hf => sHas_c g.src g.dst g.seq g.ack g.flags g.window g.o.mss g.o.scale g.o.sack g.o.stamp g.o.val g.o.echo g.body 16 ww ) ?_
 intro _
 refine aE [2,3,55] [(2,.p 0 0),(3,.p 1 0),(55,aB (!(cB g.flags 16)))] <| kC (!(cB g.flags 16)) (fun h11 => ?_) (fun h11 => ?_)
 have h11n := cd h11
 refine kQ <| aE [4] [(4,aI 1)] <| kR ?_
 have hmod : av c g = 1 := by first | rfl | (simp [av, *]; done) | grind [av]
 exact ⟨[iI 1],by kernel_rfl,fun w' hb hf => by rw [hmod]; exact ⟨rfl,hb⟩⟩
 have h11n := bS h11
 refine kQ <| em 3 [60,62] [(60,.v (.agg (a7 c (cS Z c Y)).toArray)),(62,aI g.ack)] 125 [.agg (a7 c (cS Z c Y)).toArray,iI g.ack] (some 63) rfl (bu fun ww hf => sAckFits_c c.t.ip c.t.port c.t.my c.state c.s.una c.s.data c.s.sent c.s.fin c.s.finSent c.s.done c.r.next c.r.data c.r.held (cS Z c Y) c.r.fin c.r.done c.window c.most c.o.mss c.o.scale c.o.sack c.o.stamp c.o.val c.o.echo c.timer c.tries g.ack ww ) ?_
 intro _
 refine aE [59] [(59,aB (!(fR c g.ack)))] <| kC (!(fR c g.ack)) (fun h12 => ?_) (fun h12 => ?_)
 have h12n := cd h12
 refine kQ <| aE [4] [(4,aI 3)] <| kR ?_
 have hmod : av c g = 3 := by first | rfl | (simp [av, *]; done) | grind [av]
 exact ⟨[iI 3],by kernel_rfl,fun w' hb hf => by rw [hmod]; exact ⟨rfl,hb⟩⟩
 have h12n := bS h12
 refine kK <| kQ <| aE [4] [(4,aI 5)] <| kR ?_
 have hmod : av c g = 5 := by first | rfl | (simp [av, *]; done) | grind [av]
 exact ⟨[iI 5],by kernel_rfl,fun w' hb hf => by rw [hmod]; exact ⟨rfl,hb⟩⟩
theorem yClonePiece_c (a : List Pce) (aV : Value) (w : World) (hl_aV : Sl w aV 2 (a.map pC)) (hkn : a.length ≤ 1048576) (B : Nat) (hB : B ≤ w.heap.size) : Calls Tryz.prog 88 #[aV] w fun e w' => XRs w w' e (α := Option Addr × Nat) (fun y => .slice y.1 a.length y.2) (fun y => [br B (.slice y.1 a.length y.2) 2 (a.map pC)]) := by
 obtain ⟨Aa,Ca,hva⟩ := hl_aV.form
 rw [List.length_map] at hva; subst hva
 have hna := hl_aV.len; rw [List.length_map] at hna
 have hqa := Sl.capLe hl_aV
 have hnil := fun h => Sl.nil_of h hl_aV
 refine bA (args := [.slice Aa a.length Ca]) (fn := Tryz.f88) [aX (.slice Aa a.length Ca) 2 (a.map pC)] Tryz.func88 rfl Tryz.ntmps88 rfl (by simp only [List.mem_cons,List.not_mem_nil,or_false,forall_eq_or_imp,forall_eq]; exact ⟨rfl,hl_aV⟩) ?_
 refine kQ <| cy [0] ⟨[(0,.v (.slice Aa a.length Ca))],[],[],[aX (.slice Aa a.length Ca) 2 (a.map pC)]⟩ <| kS <| kQ <| kOS 1 [0,3] [(0,.v (.slice Aa a.length Ca)),(3,.v (.slice Aa a.length Ca))] (.bool Aa.isNone) rfl (fun _ _ _ ww hr => act_nilEq (e := 89) hr.1 rfl (by kernel_rfl) rfl rfl ww) ?_
 refine aE [0,4] [(0,.v (.slice Aa a.length Ca)),(4,aB Aa.isNone)] <| kC (Aa.isNone) (fun h1 => ?_) (fun h1 => ?_)
 refine kQ <| aE [2] [(2,.v (.slice none 0 0))] <| kR ?_
 have hmod : a = [] := by exact hnil (by assumption)
 exact ⟨[.slice none 0 0],by kernel_rfl,fun w' hb hf ha => by rw [hmod]; exact xo1 ((none,0)) rfl rfl ⟨.inl ⟨rfl,_,rfl⟩,fun b hb => (hb.1 rfl).elim⟩ hb⟩
 refine kK <| kQ <| kHS 0 [0] [(0,.v (.slice Aa a.length Ca))] rfl (aR (e := 89) (K := 2) (bytes := 24) [] (rs := ([] : List Pce).map pC) rfl rfl) ?_
 intro g2
 refine kHS 1 [5,6] [(5,.v (.slice (some ⟨g2,0,none⟩) 0 0)),(6,.v (.slice Aa a.length Ca))] rfl (aT (e := 89) (K := 2) (bytes := 24) (i := 0) (q := a.length) (new := a.map pC) (rs' := a.map pC) rfl rfl rfl rfl (by kernel_rfl) (by kernel_rfl) (by kernel_rfl) rfl (by simp) rfl (by simp) (fun ww hf => (hf (aX (.slice Aa a.length Ca) 2 (a.map pC)) (by simp))) (by intro r hr; obtain ⟨x,hx,rfl⟩ := List.mem_map.1 hr; exact ⟨rfl,by simp [pC,Value.oneCell']⟩) (by (try simp only [List.length_map,List.length_append,List.length_cons,List.length_nil,List.length_take,List.length_drop,maxLen]); omega) (by (try simp only [List.length_map,List.length_append,List.length_cons,List.length_nil,List.length_take,List.length_drop,maxLen]); omega)) ?_
 rintro ⟨v3a,v3c⟩
 refine aE [2] [(2,.v (.slice v3a a.length v3c))] <| kR ?_
 exact ⟨[.slice v3a a.length v3c],by kernel_rfl,fun w' hb hf ha => by exact xo1 ((v3a,v3c)) rfl rfl (pR (hf _ m0) hB) hb⟩
theorem fJ (r : Rcv) (r_heldV : Value) (w : World) (hl_r_heldV : Sl w r_heldV 2 (r.held.map pC)) (hkn : r.held.length ≤ 1048576) (B : Nat) (hB : B ≤ w.heap.size) : Calls Tryz.prog 51 #[.agg (aa r r_heldV).toArray] w fun e w' => XRs w w' e (α := Option Addr × Nat) (fun y => .agg (aa r (.slice y.1 r.held.length y.2)).toArray) (fun y => [a8 B 89 2 (.slice y.1 r.held.length y.2) (r.held.map pC)]) := by
 obtain ⟨Arh,Crh,hvrh⟩ := hl_r_heldV.form
 rw [List.length_map] at hvrh; subst hvrh
 have hnrh := hl_r_heldV.len; rw [List.length_map] at hnrh
 have hqrh := Sl.capLe hl_r_heldV
 refine bA (args := [.agg (aa r (.slice Arh r.held.length Crh)).toArray]) (fn := Tryz.f51) [aX (.slice Arh r.held.length Crh) 2 (r.held.map pC)] Tryz.func51 rfl Tryz.ntmps51 rfl (by simp only [List.mem_cons,List.not_mem_nil,or_false,forall_eq_or_imp,forall_eq]; exact ⟨rfl,hl_r_heldV⟩) ?_
 refine kQ <| cy [1,2] ⟨[(1,.p 0 0),(2,.p 1 0)],[⟨37,aa r (.slice Arh r.held.length Crh)⟩,⟨37,eH⟩],[],[aX (.slice Arh r.held.length Crh) 2 (r.held.map pC)]⟩ <| kQ <| kHS 0 [1,2] [(1,.p 0 0),(2,.p 1 0)] rfl (aR (e := 89) (K := 2) (bytes := 24) [] (rs := ([] : List Pce).map pC) rfl rfl) ?_
 intro g1
 refine kHS 2 [1,2,3,5] [(1,.p 0 0),(2,.p 1 0),(3,.v (.slice (some ⟨g1,0,none⟩) 0 0)),(5,.v (.slice Arh r.held.length Crh))] rfl (aT (e := 89) (K := 2) (bytes := 24) (i := 0) (q := r.held.length) (new := r.held.map pC) (rs' := r.held.map pC) rfl rfl rfl rfl (by kernel_rfl) (by kernel_rfl) (by kernel_rfl) rfl (by simp) rfl (by simp) (fun ww hf => (hf (aX (.slice Arh r.held.length Crh) 2 (r.held.map pC)) (by simp))) (by intro r hr; obtain ⟨x,hx,rfl⟩ := List.mem_map.1 hr; exact ⟨rfl,by simp [pC,Value.oneCell']⟩) (by (try simp only [List.length_map,List.length_append,List.length_cons,List.length_nil,List.length_take,List.length_drop,maxLen]); omega) (by (try simp only [List.length_map,List.length_append,List.length_cons,List.length_nil,List.length_take,List.length_drop,maxLen]); omega)) ?_
 rintro ⟨v2a,v2c⟩
 refine cy [1,2] ⟨[(1,.p 0 0),(2,.p 1 0)],[⟨37,aa r (.slice v2a r.held.length v2c)⟩,⟨37,eH⟩],[],[a8 w.heap.size 89 2 (.slice v2a r.held.length v2c) (r.held.map pC),aX (.slice Arh r.held.length Crh) 2 (r.held.map pC)]⟩ <| kQ <| cy [2] ⟨[(2,.p 1 0)],[⟨37,aa r (.slice v2a r.held.length v2c)⟩,⟨37,aa r (.slice v2a r.held.length v2c)⟩],[],[a8 w.heap.size 89 2 (.slice v2a r.held.length v2c) (r.held.map pC),aX (.slice Arh r.held.length Crh) 2 (r.held.map pC)]⟩ <| kR ?_
 exact ⟨[.agg (aa r (.slice v2a r.held.length v2c)).toArray],by kernel_rfl,fun w' hb hf ha => by exact xo1 ((v2a,v2c)) rfl rfl (pW (hf _ m0) hB) hb⟩
theorem ycloneReceiver_c (r : Rcv) (r_heldV : Value) (w : World) (hl_r_heldV : Sl w r_heldV 2 (r.held.map pC)) (hkn : r.held.length ≤ 1048576) (B : Nat) (hB : B ≤ w.heap.size) : Calls Tryz.prog 57 #[.agg (aa r r_heldV).toArray] w fun e w' => XRs w w' e (α := Option Addr × Nat) (fun y => .agg (aa r (.slice y.1 r.held.length y.2)).toArray) (fun y => [br B (.slice y.1 r.held.length y.2) 2 (r.held.map pC)]) := by
 obtain ⟨Arh,Crh,hvrh⟩ := hl_r_heldV.form
 rw [List.length_map] at hvrh; subst hvrh
 have hnrh := hl_r_heldV.len; rw [List.length_map] at hnrh
 have hqrh := Sl.capLe hl_r_heldV
 refine bA (args := [.agg (aa r (.slice Arh r.held.length Crh)).toArray]) (fn := Tryz.f57) [aX (.slice Arh r.held.length Crh) 2 (r.held.map pC)] Tryz.func57 rfl Tryz.ntmps57 rfl (by simp only [List.mem_cons,List.not_mem_nil,or_false,forall_eq_or_imp,forall_eq]; exact ⟨rfl,hl_r_heldV⟩) ?_
 refine kQ <| cy [1,2] ⟨[(1,.p 0 0),(2,.p 1 0)],[⟨37,aa r (.slice Arh r.held.length Crh)⟩,⟨37,eH⟩],[],[aX (.slice Arh r.held.length Crh) 2 (r.held.map pC)]⟩ <| kQ <| em 2 [1,2,4] [(1,.p 0 0),(2,.p 1 0),(4,.v (.slice Arh r.held.length Crh))] 88 [.slice Arh r.held.length Crh] (some 5) rfl (cx fun ww hw hf => yClonePiece_c r.held (.slice Arh r.held.length Crh) ww (hf _ m0) (by assumption) w.heap.size hw) ?_
 rintro ⟨v1a,v1c⟩
 refine cy [1,2] ⟨[(1,.p 0 0),(2,.p 1 0)],[⟨37,aa r (.slice v1a r.held.length v1c)⟩,⟨37,eH⟩],[],[br w.heap.size (.slice v1a r.held.length v1c) 2 (r.held.map pC),aX (.slice Arh r.held.length Crh) 2 (r.held.map pC)]⟩ <| kQ <| cy [2] ⟨[(2,.p 1 0)],[⟨37,aa r (.slice v1a r.held.length v1c)⟩,⟨37,aa r (.slice v1a r.held.length v1c)⟩],[],[br w.heap.size (.slice v1a r.held.length v1c) 2 (r.held.map pC),aX (.slice Arh r.held.length Crh) 2 (r.held.map pC)]⟩ <| kR ?_
 exact ⟨[.agg (aa r (.slice v1a r.held.length v1c)).toArray],by kernel_rfl,fun w' hb hf ha => by exact xo1 ((v1a,v1c)) rfl rfl (pO (hf _ m0) hB) hb⟩
theorem c8 (c : Con) (rV : Value) (w : World) (hZ : Sl w rV 2 (c.r.held.map pC)) (hkn : c.r.held.length ≤ 1048576) (B : Nat) (hB : B ≤ w.heap.size) : Calls Tryz.prog 28 #[.agg (a7 c rV).toArray] w fun e w' => XRs w w' e (α := Option Addr × Nat) (fun y => .agg (a7 c (.slice y.1 c.r.held.length y.2)).toArray) (fun y => [br B (.slice y.1 c.r.held.length y.2) 2 (c.r.held.map pC)]) := by
 obtain ⟨Z,Y,hY⟩ := hZ.form
 rw [List.length_map] at hY; subst hY
 have hJ := hZ.len; rw [List.length_map] at hJ
 have hqcrh := Sl.capLe hZ
 refine bA (args := [.agg (a7 c (cS Z c Y)).toArray]) (fn := Tryz.f28) [cH Z c Y] Tryz.func28 rfl Tryz.ntmps28 rfl (by simp only [List.mem_cons,List.not_mem_nil,or_false,forall_eq_or_imp,forall_eq]; exact ⟨rfl,hZ⟩) ?_
 refine kQ <| cy [1,2] ⟨[(1,.p 0 0),(2,.p 1 0)],[⟨41,a7 c (cS Z c Y)⟩,⟨41,cR⟩],[],[cH Z c Y]⟩ <| kQ <| em 2 [1,2,4] [(1,.p 0 0),(2,.p 1 0),(4,.v (.agg (aa c.r (cS Z c Y)).toArray))] 51 [.agg (aa c.r (cS Z c Y)).toArray] (some 5) rfl (cx fun ww hw hf => fJ c.r (cS Z c Y) ww (hf _ m0) (by assumption) w.heap.size hw) ?_
 rintro ⟨v1a,v1c⟩
 refine cy [1,2] ⟨[(1,.p 0 0),(2,.p 1 0)],[⟨41,a7 c (cS v1a c v1c)⟩,⟨41,cR⟩],[],[a8 w.heap.size 89 2 (cS v1a c v1c) (c.r.held.map pC),cH Z c Y]⟩ <| kQ <| cy [2] ⟨[(2,.p 1 0)],[⟨41,a7 c (cS v1a c v1c)⟩,⟨41,a7 c (cS v1a c v1c)⟩],[],[a8 w.heap.size 89 2 (cS v1a c v1c) (c.r.held.map pC),cH Z c Y]⟩ <| kR ?_
 exact ⟨[.agg (a7 c (cS v1a c v1c)).toArray],by kernel_rfl,fun w' hb hf ha => by exact xo1 ((v1a,v1c)) rfl rfl (pR (hf _ m0) hB) hb⟩
theorem ycloneConn_c (c : Con) (rV : Value) (w : World) (hZ : Sl w rV 2 (c.r.held.map pC)) (hkn : c.r.held.length ≤ 1048576) (B : Nat) (hB : B ≤ w.heap.size) : Calls Tryz.prog 31 #[.agg (a7 c rV).toArray] w fun e w' => XRs w w' e (α := Option Addr × Nat) (fun y => .agg (a7 c (.slice y.1 c.r.held.length y.2)).toArray) (fun y => [br B (.slice y.1 c.r.held.length y.2) 2 (c.r.held.map pC)]) := by
 obtain ⟨Z,Y,hY⟩ := hZ.form
 rw [List.length_map] at hY; subst hY
 have hJ := hZ.len; rw [List.length_map] at hJ
 have hqcrh := Sl.capLe hZ
 refine bA (args := [.agg (a7 c (cS Z c Y)).toArray]) (fn := Tryz.f31) [cH Z c Y] Tryz.func31 rfl Tryz.ntmps31 rfl (by simp only [List.mem_cons,List.not_mem_nil,or_false,forall_eq_or_imp,forall_eq]; exact ⟨rfl,hZ⟩) ?_
 refine kQ <| cy [1,2] ⟨[(1,.p 0 0),(2,.p 1 0)],[⟨41,a7 c (cS Z c Y)⟩,⟨41,cR⟩],[],[cH Z c Y]⟩ <| kQ <| em 2 [1,2,4] [(1,.p 0 0),(2,.p 1 0),(4,.v (.agg (aa c.r (cS Z c Y)).toArray))] 57 [.agg (aa c.r (cS Z c Y)).toArray] (some 5) rfl (cx fun ww hw hf => ycloneReceiver_c c.r (cS Z c Y) ww (hf _ m0) (by assumption) w.heap.size hw) ?_
 rintro ⟨v1a,v1c⟩
 refine cy [1,2] ⟨[(1,.p 0 0),(2,.p 1 0)],[⟨41,a7 c (cS v1a c v1c)⟩,⟨41,cR⟩],[],[br w.heap.size (cS v1a c v1c) 2 (c.r.held.map pC),cH Z c Y]⟩ <| kQ <| cy [2] ⟨[(2,.p 1 0)],[⟨41,a7 c (cS v1a c v1c)⟩,⟨41,a7 c (cS v1a c v1c)⟩],[],[br w.heap.size (cS v1a c v1c) 2 (c.r.held.map pC),cH Z c Y]⟩ <| kR ?_
 exact ⟨[.agg (a7 c (cS v1a c v1c)).toArray],by kernel_rfl,fun w' hb hf ha => by exact xo1 ((v1a,v1c)) rfl rfl (pO (hf _ m0) hB) hb⟩
theorem yCloneTuple_c (a : List Tup) (aV : Value) (w : World) (hl_aV : Sl w aV 3 (a.map a5)) (hkn : a.length ≤ 1048576) (B : Nat) (hB : B ≤ w.heap.size) : Calls Tryz.prog 49 #[aV] w fun e w' => XRs w w' e (α := Option Addr × Nat) (fun y => .slice y.1 a.length y.2) (fun y => [a8 B 32 3 (.slice y.1 a.length y.2) (a.map a5)]) := by
 obtain ⟨Aa,Ca,hva⟩ := hl_aV.form
 rw [List.length_map] at hva; subst hva
 have hna := hl_aV.len; rw [List.length_map] at hna
 have hqa := Sl.capLe hl_aV
 have hnil := fun h => Sl.nil_of h hl_aV
 refine bA (args := [.slice Aa a.length Ca]) (fn := Tryz.f49) [aX (.slice Aa a.length Ca) 3 (a.map a5)] Tryz.func49 rfl Tryz.ntmps49 rfl (by simp only [List.mem_cons,List.not_mem_nil,or_false,forall_eq_or_imp,forall_eq]; exact ⟨rfl,hl_aV⟩) ?_
 refine kQ <| cy [0] ⟨[(0,.v (.slice Aa a.length Ca))],[],[],[aX (.slice Aa a.length Ca) 3 (a.map a5)]⟩ <| kS <| kQ <| kOS 1 [0,3] [(0,.v (.slice Aa a.length Ca)),(3,.v (.slice Aa a.length Ca))] (.bool Aa.isNone) rfl (fun _ _ _ ww hr => act_nilEq (e := 32) hr.1 rfl (by kernel_rfl) rfl rfl ww) ?_
 refine aE [0,4] [(0,.v (.slice Aa a.length Ca)),(4,aB Aa.isNone)] <| kC (Aa.isNone) (fun h1 => ?_) (fun h1 => ?_)
 refine kQ <| aE [2] [(2,.v (.slice none 0 0))] <| kR ?_
 have hmod : a = [] := by exact hnil (by assumption)
 exact ⟨[.slice none 0 0],by kernel_rfl,fun w' hb hf ha => by rw [hmod]; exact xo1 ((none,0)) rfl rfl ⟨rowF_nil _ _ _ _,fun b hb => (nilF_b _ _ _ _ hb).elim⟩ hb⟩
 refine kK <| kQ <| kHS 0 [0] [(0,.v (.slice Aa a.length Ca))] rfl (aR (e := 32) (K := 3) (bytes := 24) [] (rs := ([] : List Tup).map a5) rfl rfl) ?_
 intro g2
 refine kHS 1 [5,6] [(5,.v (.slice (some ⟨g2,0,none⟩) 0 0)),(6,.v (.slice Aa a.length Ca))] rfl (aT (e := 32) (K := 3) (bytes := 24) (i := 0) (q := a.length) (new := a.map a5) (rs' := a.map a5) rfl rfl rfl rfl (by kernel_rfl) (by kernel_rfl) (by kernel_rfl) rfl (by simp) rfl (by simp) (fun ww hf => (hf (aX (.slice Aa a.length Ca) 3 (a.map a5)) (by simp))) (by intro r hr; obtain ⟨x,hx,rfl⟩ := List.mem_map.1 hr; exact ⟨rfl,by simp [a5,Value.oneCell']⟩) (by (try simp only [List.length_map,List.length_append,List.length_cons,List.length_nil,List.length_take,List.length_drop,maxLen]); omega) (by (try simp only [List.length_map,List.length_append,List.length_cons,List.length_nil,List.length_take,List.length_drop,maxLen]); omega)) ?_
 rintro ⟨v3a,v3c⟩
 refine aE [2] [(2,.v (.slice v3a a.length v3c))] <| kR ?_
 exact ⟨[.slice v3a a.length v3c],by kernel_rfl,fun w' hb hf ha => by exact xo1 ((v3a,v3c)) rfl rfl (pW (hf _ m0) hB) hb⟩
theorem yl25Copy_c (t : Tab) (t_connsV : Value) (t_waitingV : Value) (w : World) (hl_t_connsV : Sl w t_connsV 25 (t.conns.map az)) (hh_t_connsV : ∀ x ∈ t.conns, Sl w x.2 2 (x.1.r.held.map pC)) (hl_t_waitingV : Sl w t_waitingV 3 (t.waiting.map a5)) (hfit : ∀ x ∈ t.conns, bj x.1) (hln : t.conns.length ≤ 1048576) (hlw : t.waiting.length ≤ 1048576) (B : Nat) (hB : B ≤ w.heap.size) : Calls Tryz.prog 32 #[.agg (ba t t_connsV t_waitingV).toArray] w fun e w' => XRs w w' e (α := {cs : List CV // pl cs = pl t.conns} × (Option Addr × Nat) × (Option Addr × Nat)) (fun y => .agg #[.slice y.2.1.1 y.1.1.length y.2.1.2, .slice y.2.2.1 t.waiting.length y.2.2.2]) (fun y => [a8 B 41 25 (.slice y.2.1.1 y.1.1.length y.2.1.2) (y.1.1.map az), bc B y.1.1, a8 B 32 3 (.slice y.2.2.1 t.waiting.length y.2.2.2) (t.waiting.map a5)]) := by
 obtain ⟨Atc,Ctc,hvtc⟩ := hl_t_connsV.form
 rw [List.length_map] at hvtc; subst hvtc
 have hntc := hl_t_connsV.len; rw [List.length_map] at hntc
 have hqtc := Sl.capLe hl_t_connsV
 obtain ⟨Atw,Ctw,hvtw⟩ := hl_t_waitingV.form
 rw [List.length_map] at hvtw; subst hvtw
 have hntw := hl_t_waitingV.len; rw [List.length_map] at hntw
 have hqtw := Sl.capLe hl_t_waitingV
 refine bA (args := [.agg (ba t (.slice Atc t.conns.length Ctc) (.slice Atw t.waiting.length Ctw)).toArray]) (fn := Tryz.f32) [aX (.slice Atc t.conns.length Ctc) 25 (t.conns.map az),bi t.conns,aX (.slice Atw t.waiting.length Ctw) 3 (t.waiting.map a5)] Tryz.func32 rfl Tryz.ntmps32 rfl (by simp only [List.mem_cons,List.not_mem_nil,or_false,forall_eq_or_imp,forall_eq]; exact ⟨⟨rfl,hl_t_connsV⟩,⟨rfl,hh_t_connsV⟩,⟨rfl,hl_t_waitingV⟩⟩) ?_
 refine kQ <| cy [1,2] ⟨[(1,.p 0 0),(2,.p 1 0)],[⟨27,ba t (.slice Atc t.conns.length Ctc) (.slice Atw t.waiting.length Ctw)⟩,⟨27,[.slice none 0 0,.slice none 0 0]⟩],[],[aX (.slice Atc t.conns.length Ctc) 25 (t.conns.map az),bi t.conns,aX (.slice Atw t.waiting.length Ctw) 3 (t.waiting.map a5)]⟩ <| kQ <| kHD 0 [1,2] [] rfl (aR (e := 32) (K := 3) (bytes := 24) [] (rs := ([] : List Tup).map a5) rfl rfl) ?_
 intro g1
 refine kHD 2 [1,2,5,7] [(7,.v (.slice Atw t.waiting.length Ctw))] rfl (aT (e := 32) (K := 3) (bytes := 24) (i := 0) (q := t.waiting.length) (new := t.waiting.map a5) (rs' := t.waiting.map a5) rfl rfl rfl rfl (by kernel_rfl) (by kernel_rfl) (by kernel_rfl) rfl (by simp) rfl (by simp) (fun ww hf => (hf (aX (.slice Atw t.waiting.length Ctw) 3 (t.waiting.map a5)) (by simp))) (by intro r hr; obtain ⟨x,hx,rfl⟩ := List.mem_map.1 hr; exact ⟨rfl,by simp [a5,Value.oneCell']⟩) (by (try simp only [List.length_map,List.length_append,List.length_cons,List.length_nil,List.length_take,List.length_drop,maxLen]); omega) (by (try simp only [List.length_map,List.length_append,List.length_cons,List.length_nil,List.length_take,List.length_drop,maxLen]); omega)) ?_
 rintro ⟨v2a,v2c⟩
 refine fS 0 [1,2,8] [] (.agg (ba { t with conns := [] } (.slice none 0 0) (.slice v2a t.waiting.length v2c)).toArray) rfl (fun _ _ _ ww hr => aA [(1,.slice v2a t.waiting.length v2c)] hr.1 rfl (by kernel_rfl) (by kernel_rfl) ww) ?_
 refine gU [1,2,3] [(3,.p 2 0)] [⟨27,ba { t with conns := [] } (.slice none 0 0) (.slice v2a t.waiting.length v2c)⟩] <| kS <| kQ <| aY [1,2,3,4] [(4,aI 0)] ?_
 refine ap <| fb (a8 w.heap.size 41 25 (.slice none 0 0) []) (fun ww hww => nilF_p _ _ ww hww) (fun b => nilF_b _ _ _ b) <| fb (bc w.heap.size ([])) gC (fun b => hownF_nob) <| bo (α := {x : Nat × List CV × Option Addr × Nat // (fun (i : Nat) (L : List CV) (A : Option Addr) (cap : Nat) => i ≤ t.conns.length ∧ pl L = (pl t.conns).take i) x.1 x.2.1 x.2.2.1 x.2.2.2}) (fun x => (fun (i : Nat) (L : List CV) (A : Option Addr) (cap : Nat) => (⟨[(1,.p 0 0),(2,.p 1 0),(3,.p 2 0),(4,aI (i : Int))],[⟨27,ba t (.slice Atc t.conns.length Ctc) (.slice Atw t.waiting.length Ctw)⟩,⟨27,[.slice none 0 0,.slice none 0 0]⟩,⟨27,ba { t with conns := L } (.slice A L.length cap) (.slice v2a t.waiting.length v2c)⟩],[],[bc w.heap.size L,a8 w.heap.size 41 25 (.slice A L.length cap) (L.map az),a8 w.heap.size 32 3 (.slice v2a t.waiting.length v2c) (t.waiting.map a5),aX (.slice Atc t.conns.length Ctc) 25 (t.conns.map az),bi t.conns,aX (.slice Atw t.waiting.length Ctw) 3 (t.waiting.map a5)]⟩ : St)) x.1.1 x.1.2.1 x.1.2.2.1 x.1.2.2.2) (fun x => (fun (i : Nat) (L : List CV) (A : Option Addr) (cap : Nat) => t.conns.length - i) x.1.1 x.1.2.1 x.1.2.2.1 x.1.2.2.2) ⟨(0,([] : List CV),none,0),⟨Nat.zero_le _,rfl⟩⟩ (kF 3 0 [1,2,3,4]) ?_
 rintro ⟨⟨i,L,A,cap⟩,hi,HL⟩
 try dsimp only
 try dsimp only at hi HL
 refine kS <| kQ <| aY [1,2,3,4,14] [(14,aB (decide ((i : Int) < ((t.conns.length : Nat) : Int))))] <| kC (decide ((i : Int) < ((t.conns.length : Nat) : Int))) (fun h3 => ?_) (fun h3 => ?_)
 have h3p := of_decide_eq_true h3
 have hlt : i < t.conns.length := by simpa using h3
 obtain ⟨x0,hx⟩ : ∃ x,t.conns[i]? = some x := ⟨_,List.getElem?_eq_getElem hlt⟩
 obtain ⟨x,xa,xc,rfl⟩ := fz (hh_t_connsV x0 (List.mem_of_getElem? hx))
 have hft_x : bj x := hfit _ (List.mem_of_getElem? hx)
 obtain ⟨hfs_x,hfr_x,hfh_x,hfp_x⟩ := hft_x
 have hLl := pl_take_len HL hi
 obtain ⟨bb,ob,hbb⟩ := sl_block hl_t_connsV (show (t.conns.map az)[i]? = some _ from by rw [List.getElem?_map,hx]; rfl)
 refine kK <| kS <| ap <| dK (α := Option Addr × Nat × Option Addr × Nat × Nat) (fun y => (fun (v4a : Option Addr) (v4c : Nat) (v8a : Option Addr) (v8c : Nat) (g6 : Nat) => (⟨[(1,.p 0 0),(2,.p 1 0),(3,.p 2 0),(4,aI (i : Int))],[⟨27,ba t (.slice Atc t.conns.length Ctc) (.slice Atw t.waiting.length Ctw)⟩,⟨27,[.slice none 0 0,.slice none 0 0]⟩,⟨27,ba { t with conns := (L ++ ([((x,.slice v4a x.r.held.length v4c) : CV)] : List CV)) } (.slice v8a ((L ++ ([((x,.slice v4a x.r.held.length v4c) : CV)] : List CV)).length) v8c) (.slice v2a t.waiting.length v2c)⟩],[],[a8 w.heap.size 41 25 (.slice v8a ((L ++ ([((x,.slice v4a x.r.held.length v4c) : CV)] : List CV)).length) v8c) ((L ++ ([((x,.slice v4a x.r.held.length v4c) : CV)] : List CV)).map az),a8 w.heap.size 41 25 (.slice (some ⟨g6,0,none⟩) 1 1) (([((x,.slice v4a x.r.held.length v4c) : CV)] : List CV).map az),br w.heap.size (cS v4a x v4c) 2 (x.r.held.map pC),bc w.heap.size L,a8 w.heap.size 32 3 (.slice v2a t.waiting.length v2c) (t.waiting.map a5),aX (.slice Atc t.conns.length Ctc) 25 (t.conns.map az),bi t.conns,aX (.slice Atw t.waiting.length Ctw) 3 (t.waiting.map a5)]⟩ : St)) y.1 y.2.1 y.2.2.1 y.2.2.2.1 y.2.2.2.2) ?_ ?_
 refine aF [true,true,false] (by kernel_rfl) (fun ρ σ => ?_)
 refine cQ [0,2,3,4] [21,20,17,1,2,3,4] 8 [(21,aI (i : Int)),(20,.v (.slice Atc t.conns.length Ctc)),(17,.p 2 0)] <| kX 5 (.pointer (some ⟨bb,ob + i * 25,none⟩)) rfl (fun _ _ ww hA => fg (kd := .i64) (T := 24) (e := 41) (K := 25) (b := bb) (off := ob) (N := t.conns.length) (cap := Ctc) i hbb hA rfl rfl (by kernel_rfl) (by kernel_rfl) (by kernel_rfl) hlt ww) ?_
 refine kA [1,6] ⟨?_,?_⟩
 refine dH 1 (.v (.slice A L.length cap)) rfl <| kA [6] <| gc 6 (.agg (a7 x (cS xa x xc)).toArray) rfl (fun _ _ ww hr => f4 (po := 0) (j := i) (row := [iI x.t.ip,iI x.t.port,iI x.t.my,iI x.state,iI x.s.una,.string x.s.data,iI x.s.sent,.bool x.s.fin,.bool x.s.finSent,.bool x.s.done,iI x.r.next,.string x.r.data,.slice xa x.r.held.length xc,iI x.r.fin,.bool x.r.done,iI x.window,iI x.most,iI x.o.mss,iI x.o.scale,.bool x.o.sack,.bool x.o.stamp,iI x.o.val,iI x.o.echo,iI x.timer,iI x.tries]) (aX (.slice Atc t.conns.length Ctc) 25 (t.conns.map az)) (fun w h => h) hr rfl (by kernel_rfl) (by simp) (by simp only [List.getElem?_map,hx]; rfl) (by kernel_rfl) hbb) ?_
 refine kA [7] <| cE 7 28 [.agg (a7 x (cS xa x xc)).toArray] (some 24) rfl (cx fun ww hw hf => c8 x (cS xa x xc) ww ((hf _ m4) (x,.slice xa x.r.held.length xc) (List.mem_of_getElem? hx)) (by assumption) w.heap.size hw) ?_
 rintro ⟨v4a,v4c⟩
 refine kA [8] <| dq 8 rfl (a6 (a6 (au rfl a9))) (aR (e := 41) (K := 25) (bytes := 208) [.agg (a7 x (cS v4a x v4c)).toArray] (rs := ([((x,.slice v4a x.r.held.length v4c) : CV)] : List CV).map az) (by rfl) rfl) ?_
 intro g6
 refine kA [9] <| dq 9 rfl (a6 (a6 (au rfl a9))) (aT (e := 41) (K := 25) (bytes := 208) (i := 3) (q := (L ++ ([((x,.slice v4a x.r.held.length v4c) : CV)] : List CV)).length) (new := ([((x,.slice v4a x.r.held.length v4c) : CV)] : List CV).map az) (rs' := (L ++ ([((x,.slice v4a x.r.held.length v4c) : CV)] : List CV)).map az) rfl rfl rfl rfl (by kernel_rfl) (by kernel_rfl) (by kernel_rfl) rfl (by simp) (by rw [List.map_append]) (by simp) (fun ww hf => (aw (hf (a8 w.heap.size 41 25 (.slice (some ⟨g6,0,none⟩) 1 1) (([((x,.slice v4a x.r.held.length v4c) : CV)] : List CV).map az)) (by simp)))) (by intro r hr; simp only [List.map_cons,List.map_nil,List.mem_singleton] at hr; subst hr; exact ⟨rfl,by simp [az,a7,Value.oneCell']⟩) (by (try simp only [List.length_map,List.length_append,List.length_cons,List.length_nil,List.length_take,List.length_drop,maxLen]); omega) (by (try simp only [List.length_map,List.length_append,List.length_cons,List.length_nil,List.length_take,List.length_drop,maxLen]); omega)) ?_
 rintro ⟨v8a,v8c⟩
 refine cQ [10] [27,26,1,2,3,4] 1 [(27,.p 2 0)] <| kA [11] <| du 11 2 0 [.slice v8a ((L ++ ([((x,.slice v4a x.r.held.length v4c) : CV)] : List CV)).length) v8c] rfl <| kZ ?_
 exact ⟨(v4a,v4c,v8a,v8c,g6),kF 3 0 [1,2,3,4]⟩
 refine gc 6 (.agg (a7 x (cS xa x xc)).toArray) rfl (fun _ _ ww hr => f4 (po := 0) (j := i) (row := [iI x.t.ip,iI x.t.port,iI x.t.my,iI x.state,iI x.s.una,.string x.s.data,iI x.s.sent,.bool x.s.fin,.bool x.s.finSent,.bool x.s.done,iI x.r.next,.string x.r.data,.slice xa x.r.held.length xc,iI x.r.fin,.bool x.r.done,iI x.window,iI x.most,iI x.o.mss,iI x.o.scale,.bool x.o.sack,.bool x.o.stamp,iI x.o.val,iI x.o.echo,iI x.timer,iI x.tries]) (aX (.slice Atc t.conns.length Ctc) 25 (t.conns.map az)) (fun w h => h) hr rfl (by kernel_rfl) (by simp) (by simp only [List.getElem?_map,hx]; rfl) (by kernel_rfl) hbb) ?_
 refine kA [1,7] ⟨?_,?_⟩
 refine dH 1 (.v (.slice A L.length cap)) rfl <| kA [7] <| cE 7 28 [.agg (a7 x (cS xa x xc)).toArray] (some 24) rfl (cx fun ww hw hf => c8 x (cS xa x xc) ww ((hf _ m4) (x,.slice xa x.r.held.length xc) (List.mem_of_getElem? hx)) (by assumption) w.heap.size hw) ?_
 rintro ⟨v9a,v9c⟩
 refine kA [8] <| dq 8 rfl (a6 (a6 (au rfl a9))) (aR (e := 41) (K := 25) (bytes := 208) [.agg (a7 x (cS v9a x v9c)).toArray] (rs := ([((x,.slice v9a x.r.held.length v9c) : CV)] : List CV).map az) (by rfl) rfl) ?_
 intro g11
 refine kA [9] <| dq 9 rfl (a6 (a6 (au rfl a9))) (aT (e := 41) (K := 25) (bytes := 208) (i := 3) (q := (L ++ ([((x,.slice v9a x.r.held.length v9c) : CV)] : List CV)).length) (new := ([((x,.slice v9a x.r.held.length v9c) : CV)] : List CV).map az) (rs' := (L ++ ([((x,.slice v9a x.r.held.length v9c) : CV)] : List CV)).map az) rfl rfl rfl rfl (by kernel_rfl) (by kernel_rfl) (by kernel_rfl) rfl (by simp) (by rw [List.map_append]) (by simp) (fun ww hf => (aw (hf (a8 w.heap.size 41 25 (.slice (some ⟨g11,0,none⟩) 1 1) (([((x,.slice v9a x.r.held.length v9c) : CV)] : List CV).map az)) (by simp)))) (by intro r hr; simp only [List.map_cons,List.map_nil,List.mem_singleton] at hr; subst hr; exact ⟨rfl,by simp [az,a7,Value.oneCell']⟩) (by (try simp only [List.length_map,List.length_append,List.length_cons,List.length_nil,List.length_take,List.length_drop,maxLen]); omega) (by (try simp only [List.length_map,List.length_append,List.length_cons,List.length_nil,List.length_take,List.length_drop,maxLen]); omega)) ?_
 rintro ⟨v13a,v13c⟩
 refine cQ [10] [27,26,1,2,3,4] 1 [(27,.p 2 0)] <| kA [11] <| du 11 2 0 [.slice v13a ((L ++ ([((x,.slice v9a x.r.held.length v9c) : CV)] : List CV)).length) v13c] rfl <| kZ ?_
 exact ⟨(v9a,v9c,v13a,v13c,g11),kF 3 0 [1,2,3,4]⟩
 refine cE 7 28 [.agg (a7 x (cS xa x xc)).toArray] (some 24) rfl (cx fun ww hw hf => c8 x (cS xa x xc) ww ((hf _ m4) (x,.slice xa x.r.held.length xc) (List.mem_of_getElem? hx)) (by assumption) w.heap.size hw) ?_
 rintro ⟨v14a,v14c⟩
 refine kA [1,8] ⟨?_,?_⟩
 refine dH 1 (.v (.slice A L.length cap)) rfl <| kA [8] <| dq 8 rfl (a6 (a6 (au rfl a9))) (aR (e := 41) (K := 25) (bytes := 208) [.agg (a7 x (cS v14a x v14c)).toArray] (rs := ([((x,.slice v14a x.r.held.length v14c) : CV)] : List CV).map az) (by rfl) rfl) ?_
 intro g17
 refine kA [9] <| dq 9 rfl (a6 (a6 (au rfl a9))) (aT (e := 41) (K := 25) (bytes := 208) (i := 3) (q := (L ++ ([((x,.slice v14a x.r.held.length v14c) : CV)] : List CV)).length) (new := ([((x,.slice v14a x.r.held.length v14c) : CV)] : List CV).map az) (rs' := (L ++ ([((x,.slice v14a x.r.held.length v14c) : CV)] : List CV)).map az) rfl rfl rfl rfl (by kernel_rfl) (by kernel_rfl) (by kernel_rfl) rfl (by simp) (by rw [List.map_append]) (by simp) (fun ww hf => (aw (hf (a8 w.heap.size 41 25 (.slice (some ⟨g17,0,none⟩) 1 1) (([((x,.slice v14a x.r.held.length v14c) : CV)] : List CV).map az)) (by simp)))) (by intro r hr; simp only [List.map_cons,List.map_nil,List.mem_singleton] at hr; subst hr; exact ⟨rfl,by simp [az,a7,Value.oneCell']⟩) (by (try simp only [List.length_map,List.length_append,List.length_cons,List.length_nil,List.length_take,List.length_drop,maxLen]); omega) (by (try simp only [List.length_map,List.length_append,List.length_cons,List.length_nil,List.length_take,List.length_drop,maxLen]); omega)) ?_
 rintro ⟨v19a,v19c⟩
 refine cQ [10] [27,26,1,2,3,4] 1 [(27,.p 2 0)] <| kA [11] <| du 11 2 0 [.slice v19a ((L ++ ([((x,.slice v14a x.r.held.length v14c) : CV)] : List CV)).length) v19c] rfl <| kZ ?_
 exact ⟨(v14a,v14c,v19a,v19c,g17),kF 3 0 [1,2,3,4]⟩
 refine dq 8 rfl (a6 (a6 (au rfl a9))) (aR (e := 41) (K := 25) (bytes := 208) [.agg (a7 x (cS v14a x v14c)).toArray] (rs := ([((x,.slice v14a x.r.held.length v14c) : CV)] : List CV).map az) (by rfl) rfl) ?_
 intro g20
 refine kA [1] <| dH 1 (.v (.slice A L.length cap)) rfl <| kA [9] <| dq 9 rfl (a6 (a6 (au rfl a9))) (aT (e := 41) (K := 25) (bytes := 208) (i := 3) (q := (L ++ ([((x,.slice v14a x.r.held.length v14c) : CV)] : List CV)).length) (new := ([((x,.slice v14a x.r.held.length v14c) : CV)] : List CV).map az) (rs' := (L ++ ([((x,.slice v14a x.r.held.length v14c) : CV)] : List CV)).map az) rfl rfl rfl rfl (by kernel_rfl) (by kernel_rfl) (by kernel_rfl) rfl (by simp) (by rw [List.map_append]) (by simp) (fun ww hf => (aw (hf (a8 w.heap.size 41 25 (.slice (some ⟨g20,0,none⟩) 1 1) (([((x,.slice v14a x.r.held.length v14c) : CV)] : List CV).map az)) (by simp)))) (by intro r hr; simp only [List.map_cons,List.map_nil,List.mem_singleton] at hr; subst hr; exact ⟨rfl,by simp [az,a7,Value.oneCell']⟩) (by (try simp only [List.length_map,List.length_append,List.length_cons,List.length_nil,List.length_take,List.length_drop,maxLen]); omega) (by (try simp only [List.length_map,List.length_append,List.length_cons,List.length_nil,List.length_take,List.length_drop,maxLen]); omega)) ?_
 rintro ⟨v22a,v22c⟩
 refine cQ [10] [27,26,1,2,3,4] 1 [(27,.p 2 0)] <| kA [11] <| du 11 2 0 [.slice v22a ((L ++ ([((x,.slice v14a x.r.held.length v14c) : CV)] : List CV)).length) v22c] rfl <| kZ ?_
 exact ⟨(v14a,v14c,v22a,v22c,g20),kF 3 0 [1,2,3,4]⟩
 rintro ⟨v4a,v4c,v8a,v8c,g6⟩
 refine kG <| kRF 3 [1,2,3,4] ⟨[(1,.p 0 0),(2,.p 1 0),(3,.p 2 0),(4,aI (K6.wrap ((i : Int) + 1)))],[⟨27,ba t (.slice Atc t.conns.length Ctc) (.slice Atw t.waiting.length Ctw)⟩,⟨27,[.slice none 0 0,.slice none 0 0]⟩,⟨27,ba { t with conns := (L ++ ([((x,.slice v4a x.r.held.length v4c) : CV)] : List CV)) } (.slice v8a ((L ++ ([((x,.slice v4a x.r.held.length v4c) : CV)] : List CV)).length) v8c) (.slice v2a t.waiting.length v2c)⟩],[],[a8 w.heap.size 41 25 (.slice v8a ((L ++ ([((x,.slice v4a x.r.held.length v4c) : CV)] : List CV)).length) v8c) ((L ++ ([((x,.slice v4a x.r.held.length v4c) : CV)] : List CV)).map az),a8 w.heap.size 41 25 (.slice (some ⟨g6,0,none⟩) 1 1) (([((x,.slice v4a x.r.held.length v4c) : CV)] : List CV).map az),br w.heap.size (cS v4a x v4c) 2 (x.r.held.map pC),bc w.heap.size L,a8 w.heap.size 32 3 (.slice v2a t.waiting.length v2c) (t.waiting.map a5),aX (.slice Atc t.conns.length Ctc) 25 (t.conns.map az),bi t.conns,aX (.slice Atw t.waiting.length Ctw) 3 (t.waiting.map a5)]⟩ <| bE [1,2,3,4] [(4,aI (K6.wrap ((i : Int) + 1)))] [(4,aI ((i : Int) + 1))] (by rw [show (K6.wrap ((i : Int) + 1)) = ((i : Int) + 1) from ao (by omega) (by omega)]) (by kernel_rfl) ?_
 refine aY [1,2,3,4] [] ?_
 exact ⟨⟨(i + 1,(L ++ ([((x,.slice v4a x.r.held.length v4c) : CV)] : List CV)),v8a,v8c),⟨hlt,pl_snoc HL hx⟩⟩,e7 [2,3,0,4,5,6,7] <| (eX (fun _ _ _ _ h => gX (cs := L) (x := ((x,.slice v4a x.r.held.length v4c) : CV)) h)).trans <| kF 3 0 [1,2,3,4],by show (fun (i : Nat) (L : List CV) (A : Option Addr) (cap : Nat) => t.conns.length - i) (i + 1) (L ++ ([((x,.slice v4a x.r.held.length v4c) : CV)] : List CV)) v8a v8c < t.conns.length - i; (dsimp only; omega)⟩
 have h3p := of_decide_eq_false h3
 have hge : i = t.conns.length := by simp at h3; omega
 refine bY <| kQ <| bN [2] [(2,.p 1 0)] 1 ⟨27,ba { t with conns := L } (.slice A L.length cap) (.slice v2a t.waiting.length v2c)⟩ <| kR ?_
 have hmc : pl L = pl t.conns := by exact pl_take_all HL hge
 exact ⟨[.agg (ba { t with conns := L } (.slice A L.length cap) (.slice v2a t.waiting.length v2c)).toArray],by kernel_rfl,fun w' hb hf ha => by exact xo3 (⟨L,hmc⟩,(A,cap),(v2a,v2c)) rfl rfl (pW (hf _ m1) hB) (pH (hf _ m0) hB) (pW (hf _ m2) hB) (Apart.sub3 ha [1,0,2] rfl (by decide) rfl rfl rfl (by exact fun b h => h) (fun b h => ea h) (by exact fun b h => h)) hb⟩
theorem ycloneTable_c (t : Tab) (t_connsV : Value) (t_waitingV : Value) (w : World) (hl_t_connsV : Sl w t_connsV 25 (t.conns.map az)) (hh_t_connsV : ∀ x ∈ t.conns, Sl w x.2 2 (x.1.r.held.map pC)) (hl_t_waitingV : Sl w t_waitingV 3 (t.waiting.map a5)) (hfit : ∀ x ∈ t.conns, bj x.1) (hln : t.conns.length ≤ 1048576) (hlw : t.waiting.length ≤ 1048576) (B : Nat) (hB : B ≤ w.heap.size) : Calls Tryz.prog 21 #[.agg (ba t t_connsV t_waitingV).toArray] w fun e w' => XRs w w' e (α := {cs : List CV // pl cs = pl t.conns} × (Option Addr × Nat) × (Option Addr × Nat)) (fun y => .agg #[.slice y.2.1.1 y.1.1.length y.2.1.2, .slice y.2.2.1 t.waiting.length y.2.2.2]) (fun y => [a8 B 41 25 (.slice y.2.1.1 y.1.1.length y.2.1.2) (y.1.1.map az), bc B y.1.1, a8 B 32 3 (.slice y.2.2.1 t.waiting.length y.2.2.2) (t.waiting.map a5)]) := by
 obtain ⟨Atc,Ctc,hvtc⟩ := hl_t_connsV.form
 rw [List.length_map] at hvtc; subst hvtc
 have hntc := hl_t_connsV.len; rw [List.length_map] at hntc
 have hqtc := Sl.capLe hl_t_connsV
 obtain ⟨Atw,Ctw,hvtw⟩ := hl_t_waitingV.form
 rw [List.length_map] at hvtw; subst hvtw
 have hntw := hl_t_waitingV.len; rw [List.length_map] at hntw
 have hqtw := Sl.capLe hl_t_waitingV
 refine bA (args := [.agg (ba t (.slice Atc t.conns.length Ctc) (.slice Atw t.waiting.length Ctw)).toArray]) (fn := Tryz.f21) [aX (.slice Atc t.conns.length Ctc) 25 (t.conns.map az),bi t.conns,aX (.slice Atw t.waiting.length Ctw) 3 (t.waiting.map a5)] Tryz.func21 rfl Tryz.ntmps21 rfl (by simp only [List.mem_cons,List.not_mem_nil,or_false,forall_eq_or_imp,forall_eq]; exact ⟨⟨rfl,hl_t_connsV⟩,⟨rfl,hh_t_connsV⟩,⟨rfl,hl_t_waitingV⟩⟩) ?_
 refine kQ <| cy [1,2] ⟨[(1,.p 0 0),(2,.p 1 0)],[⟨27,ba t (.slice Atc t.conns.length Ctc) (.slice Atw t.waiting.length Ctw)⟩,⟨27,[.slice none 0 0,.slice none 0 0]⟩],[],[aX (.slice Atc t.conns.length Ctc) 25 (t.conns.map az),bi t.conns,aX (.slice Atw t.waiting.length Ctw) 3 (t.waiting.map a5)]⟩ <| kQ <| dS 2 [1,2,7] [(7,.v (.slice Atw t.waiting.length Ctw))] 49 [.slice Atw t.waiting.length Ctw] (some 8) rfl (cx fun ww hw hf => yCloneTuple_c t.waiting (.slice Atw t.waiting.length Ctw) ww (hf _ m2) (by assumption) w.heap.size hw) ?_
 rintro ⟨v1a,v1c⟩
 refine fS 0 [1,2,8] [] (.agg (ba { t with conns := [] } (.slice none 0 0) (.slice v1a t.waiting.length v1c)).toArray) rfl (fun _ _ _ ww hr => aA [(1,.slice v1a t.waiting.length v1c)] hr.1 rfl (by kernel_rfl) (by kernel_rfl) ww) ?_
 refine gU [1,2,3] [(3,.p 2 0)] [⟨27,ba { t with conns := [] } (.slice none 0 0) (.slice v1a t.waiting.length v1c)⟩] <| kS <| kQ <| aY [2,3,11,12,13] [(11,.v (.slice Atc t.conns.length Ctc)),(12,aI ((t.conns.length : Nat) : Int)),(13,aI 0)] ?_
 refine ap <| fb (a8 w.heap.size 41 25 (.slice none 0 0) []) (fun ww hww => nilF_p _ _ ww hww) (fun b => nilF_b _ _ _ b) <| fb (bc w.heap.size ([])) gC (fun b => hownF_nob) <| bo (α := {x : Nat × List CV × Option Addr × Nat // (fun (i : Nat) (L : List CV) (A : Option Addr) (cap : Nat) => i ≤ t.conns.length ∧ pl L = (pl t.conns).take i) x.1 x.2.1 x.2.2.1 x.2.2.2}) (fun x => (fun (i : Nat) (L : List CV) (A : Option Addr) (cap : Nat) => (⟨[(2,.p 1 0),(3,.p 2 0),(11,.v (.slice Atc t.conns.length Ctc)),(12,aI ((t.conns.length : Nat) : Int)),(13,aI (i : Int))],[⟨27,ba t (.slice Atc t.conns.length Ctc) (.slice Atw t.waiting.length Ctw)⟩,⟨27,[.slice none 0 0,.slice none 0 0]⟩,⟨27,ba { t with conns := L } (.slice A L.length cap) (.slice v1a t.waiting.length v1c)⟩],[],[bc w.heap.size L,a8 w.heap.size 41 25 (.slice A L.length cap) (L.map az),a8 w.heap.size 32 3 (.slice v1a t.waiting.length v1c) (t.waiting.map a5),aX (.slice Atc t.conns.length Ctc) 25 (t.conns.map az),bi t.conns,aX (.slice Atw t.waiting.length Ctw) 3 (t.waiting.map a5)]⟩ : St)) x.1.1 x.1.2.1 x.1.2.2.1 x.1.2.2.2) (fun x => (fun (i : Nat) (L : List CV) (A : Option Addr) (cap : Nat) => t.conns.length - i) x.1.1 x.1.2.1 x.1.2.2.1 x.1.2.2.2) ⟨(0,([] : List CV),none,0),⟨Nat.zero_le _,rfl⟩⟩ (kF 3 0 [2,3,11,12,13]) ?_
 rintro ⟨⟨i,L,A,cap⟩,hi,HL⟩
 try dsimp only
 try dsimp only at hi HL
 refine kQ <| aY [2,3,11,12,13,14] [(14,aB (decide ((i : Int) < ((t.conns.length : Nat) : Int))))] <| kS <| kC (decide ((i : Int) < ((t.conns.length : Nat) : Int))) (fun h2 => ?_) (fun h2 => ?_)
 have h2p := of_decide_eq_true h2
 have hlt : i < t.conns.length := by simpa using h2
 obtain ⟨x0,hx⟩ : ∃ x,t.conns[i]? = some x := ⟨_,List.getElem?_eq_getElem hlt⟩
 obtain ⟨x,xa,xc,rfl⟩ := fz (hh_t_connsV x0 (List.mem_of_getElem? hx))
 have hft_x : bj x := hfit _ (List.mem_of_getElem? hx)
 obtain ⟨hfs_x,hfr_x,hfh_x,hfp_x⟩ := hft_x
 have hLl := pl_take_len HL hi
 refine kK <| kS <| ap <| kQ <| da (kd := .i64) (T := 24) (e := 41) (K := 25) 0 [2,3,11,12,13] [] i [iI x.t.ip,iI x.t.port,iI x.t.my,iI x.state,iI x.s.una,.string x.s.data,iI x.s.sent,.bool x.s.fin,.bool x.s.finSent,.bool x.s.done,iI x.r.next,.string x.r.data,.slice xa x.r.held.length xc,iI x.r.fin,.bool x.r.done,iI x.window,iI x.most,iI x.o.mss,iI x.o.scale,.bool x.o.sack,.bool x.o.stamp,iI x.o.val,iI x.o.echo,iI x.timer,iI x.tries] (aX (.slice Atc t.conns.length Ctc) 25 (t.conns.map az)) (by kernel_rfl) rfl (by kernel_rfl) rfl rfl (by kernel_rfl) (by kernel_rfl) (by kernel_rfl) (by kernel_rfl) hlt (by simp) (fun w h => h) (fun b h => h) (by simp only [List.getElem?_map,hx]; rfl) ?_
 refine gU [2,3,5,11,12,13] [(5,.p 3 0)] [⟨41,a7 x (cS xa x xc)⟩] <| dK (α := Option Addr × Nat × Option Addr × Nat × Nat) (fun y => (fun (v3a : Option Addr) (v3c : Nat) (v7a : Option Addr) (v7c : Nat) (g5 : Nat) => (⟨[(2,.p 1 0),(3,.p 2 0),(11,.v (.slice Atc t.conns.length Ctc)),(12,aI ((t.conns.length : Nat) : Int)),(13,aI (i : Int))],[⟨27,ba t (.slice Atc t.conns.length Ctc) (.slice Atw t.waiting.length Ctw)⟩,⟨27,[.slice none 0 0,.slice none 0 0]⟩,⟨27,ba { t with conns := (L ++ ([((x,.slice v3a x.r.held.length v3c) : CV)] : List CV)) } (.slice v7a ((L ++ ([((x,.slice v3a x.r.held.length v3c) : CV)] : List CV)).length) v7c) (.slice v1a t.waiting.length v1c)⟩,⟨41,a7 x (cS xa x xc)⟩],[],[a8 w.heap.size 41 25 (.slice v7a ((L ++ ([((x,.slice v3a x.r.held.length v3c) : CV)] : List CV)).length) v7c) ((L ++ ([((x,.slice v3a x.r.held.length v3c) : CV)] : List CV)).map az),a8 w.heap.size 41 25 (.slice (some ⟨g5,0,none⟩) 1 1) (([((x,.slice v3a x.r.held.length v3c) : CV)] : List CV).map az),br w.heap.size (cS v3a x v3c) 2 (x.r.held.map pC),bc w.heap.size L,a8 w.heap.size 32 3 (.slice v1a t.waiting.length v1c) (t.waiting.map a5),aX (.slice Atc t.conns.length Ctc) 25 (t.conns.map az),bi t.conns,aX (.slice Atw t.waiting.length Ctw) 3 (t.waiting.map a5)]⟩ : St)) y.1 y.2.1 y.2.2.1 y.2.2.2.1 y.2.2.2.2) ?_ ?_
 refine aF [true,true,false,true] (by kernel_rfl) (fun ρ σ => ?_)
 refine cQ [0,2] [19,17,2,3,11,12,13] 6 [(19,.v (.agg (a7 x (cS xa x xc)).toArray)),(17,.p 2 0)] <| kA [1,3] ⟨?_,?_⟩
 refine dH 1 (.v (.slice A L.length cap)) rfl <| kA [3] <| cE 3 31 [.agg (a7 x (cS xa x xc)).toArray] (some 20) rfl (cx fun ww hw hf => ycloneConn_c x (cS xa x xc) ww ((hf _ m4) (x,.slice xa x.r.held.length xc) (List.mem_of_getElem? hx)) (by assumption) w.heap.size hw) ?_
 rintro ⟨v3a,v3c⟩
 refine kA [4] <| dq 4 rfl (a6 (a6 (au rfl (a6 a9)))) (aR (e := 41) (K := 25) (bytes := 208) [.agg (a7 x (cS v3a x v3c)).toArray] (rs := ([((x,.slice v3a x.r.held.length v3c) : CV)] : List CV).map az) (by rfl) rfl) ?_
 intro g5
 refine kA [5] <| dq 5 rfl (a6 (a6 (au rfl (a6 a9)))) (aT (e := 41) (K := 25) (bytes := 208) (i := 3) (q := (L ++ ([((x,.slice v3a x.r.held.length v3c) : CV)] : List CV)).length) (new := ([((x,.slice v3a x.r.held.length v3c) : CV)] : List CV).map az) (rs' := (L ++ ([((x,.slice v3a x.r.held.length v3c) : CV)] : List CV)).map az) rfl rfl rfl rfl (by kernel_rfl) (by kernel_rfl) (by kernel_rfl) rfl (by simp) (by rw [List.map_append]) (by simp) (fun ww hf => (aw (hf (a8 w.heap.size 41 25 (.slice (some ⟨g5,0,none⟩) 1 1) (([((x,.slice v3a x.r.held.length v3c) : CV)] : List CV).map az)) (by simp)))) (by intro r hr; simp only [List.map_cons,List.map_nil,List.mem_singleton] at hr; subst hr; exact ⟨rfl,by simp [az,a7,Value.oneCell']⟩) (by (try simp only [List.length_map,List.length_append,List.length_cons,List.length_nil,List.length_take,List.length_drop,maxLen]); omega) (by (try simp only [List.length_map,List.length_append,List.length_cons,List.length_nil,List.length_take,List.length_drop,maxLen]); omega)) ?_
 rintro ⟨v7a,v7c⟩
 refine cQ [6] [23,22,2,3,11,12,13] 1 [(23,.p 2 0)] <| kA [7] <| du 7 2 0 [.slice v7a ((L ++ ([((x,.slice v3a x.r.held.length v3c) : CV)] : List CV)).length) v7c] rfl <| kZ ?_
 exact ⟨(v3a,v3c,v7a,v7c,g5),kF 4 0 [2,3,11,12,13]⟩
 refine cE 3 31 [.agg (a7 x (cS xa x xc)).toArray] (some 20) rfl (cx fun ww hw hf => ycloneConn_c x (cS xa x xc) ww ((hf _ m4) (x,.slice xa x.r.held.length xc) (List.mem_of_getElem? hx)) (by assumption) w.heap.size hw) ?_
 rintro ⟨v8a,v8c⟩
 refine kA [1,4] ⟨?_,?_⟩
 refine dH 1 (.v (.slice A L.length cap)) rfl <| kA [4] <| dq 4 rfl (a6 (a6 (au rfl (a6 a9)))) (aR (e := 41) (K := 25) (bytes := 208) [.agg (a7 x (cS v8a x v8c)).toArray] (rs := ([((x,.slice v8a x.r.held.length v8c) : CV)] : List CV).map az) (by rfl) rfl) ?_
 intro g11
 refine kA [5] <| dq 5 rfl (a6 (a6 (au rfl (a6 a9)))) (aT (e := 41) (K := 25) (bytes := 208) (i := 3) (q := (L ++ ([((x,.slice v8a x.r.held.length v8c) : CV)] : List CV)).length) (new := ([((x,.slice v8a x.r.held.length v8c) : CV)] : List CV).map az) (rs' := (L ++ ([((x,.slice v8a x.r.held.length v8c) : CV)] : List CV)).map az) rfl rfl rfl rfl (by kernel_rfl) (by kernel_rfl) (by kernel_rfl) rfl (by simp) (by rw [List.map_append]) (by simp) (fun ww hf => (aw (hf (a8 w.heap.size 41 25 (.slice (some ⟨g11,0,none⟩) 1 1) (([((x,.slice v8a x.r.held.length v8c) : CV)] : List CV).map az)) (by simp)))) (by intro r hr; simp only [List.map_cons,List.map_nil,List.mem_singleton] at hr; subst hr; exact ⟨rfl,by simp [az,a7,Value.oneCell']⟩) (by (try simp only [List.length_map,List.length_append,List.length_cons,List.length_nil,List.length_take,List.length_drop,maxLen]); omega) (by (try simp only [List.length_map,List.length_append,List.length_cons,List.length_nil,List.length_take,List.length_drop,maxLen]); omega)) ?_
 rintro ⟨v13a,v13c⟩
 refine cQ [6] [23,22,2,3,11,12,13] 1 [(23,.p 2 0)] <| kA [7] <| du 7 2 0 [.slice v13a ((L ++ ([((x,.slice v8a x.r.held.length v8c) : CV)] : List CV)).length) v13c] rfl <| kZ ?_
 exact ⟨(v8a,v8c,v13a,v13c,g11),kF 4 0 [2,3,11,12,13]⟩
 refine dq 4 rfl (a6 (a6 (au rfl (a6 a9)))) (aR (e := 41) (K := 25) (bytes := 208) [.agg (a7 x (cS v8a x v8c)).toArray] (rs := ([((x,.slice v8a x.r.held.length v8c) : CV)] : List CV).map az) (by rfl) rfl) ?_
 intro g14
 refine kA [1] <| dH 1 (.v (.slice A L.length cap)) rfl <| kA [5] <| dq 5 rfl (a6 (a6 (au rfl (a6 a9)))) (aT (e := 41) (K := 25) (bytes := 208) (i := 3) (q := (L ++ ([((x,.slice v8a x.r.held.length v8c) : CV)] : List CV)).length) (new := ([((x,.slice v8a x.r.held.length v8c) : CV)] : List CV).map az) (rs' := (L ++ ([((x,.slice v8a x.r.held.length v8c) : CV)] : List CV)).map az) rfl rfl rfl rfl (by kernel_rfl) (by kernel_rfl) (by kernel_rfl) rfl (by simp) (by rw [List.map_append]) (by simp) (fun ww hf => (aw (hf (a8 w.heap.size 41 25 (.slice (some ⟨g14,0,none⟩) 1 1) (([((x,.slice v8a x.r.held.length v8c) : CV)] : List CV).map az)) (by simp)))) (by intro r hr; simp only [List.map_cons,List.map_nil,List.mem_singleton] at hr; subst hr; exact ⟨rfl,by simp [az,a7,Value.oneCell']⟩) (by (try simp only [List.length_map,List.length_append,List.length_cons,List.length_nil,List.length_take,List.length_drop,maxLen]); omega) (by (try simp only [List.length_map,List.length_append,List.length_cons,List.length_nil,List.length_take,List.length_drop,maxLen]); omega)) ?_
 rintro ⟨v16a,v16c⟩
 refine cQ [6] [23,22,2,3,11,12,13] 1 [(23,.p 2 0)] <| kA [7] <| du 7 2 0 [.slice v16a ((L ++ ([((x,.slice v8a x.r.held.length v8c) : CV)] : List CV)).length) v16c] rfl <| kZ ?_
 exact ⟨(v8a,v8c,v16a,v16c,g14),kF 4 0 [2,3,11,12,13]⟩
 rintro ⟨v3a,v3c,v7a,v7c,g5⟩
 refine kG <| kRF 2 [2,3,11,12,13] ⟨[(2,.p 1 0),(3,.p 2 0),(11,.v (.slice Atc t.conns.length Ctc)),(12,aI ((t.conns.length : Nat) : Int)),(13,aI (K6.wrap ((i : Int) + 1)))],[⟨27,ba t (.slice Atc t.conns.length Ctc) (.slice Atw t.waiting.length Ctw)⟩,⟨27,[.slice none 0 0,.slice none 0 0]⟩,⟨27,ba { t with conns := (L ++ ([((x,.slice v3a x.r.held.length v3c) : CV)] : List CV)) } (.slice v7a ((L ++ ([((x,.slice v3a x.r.held.length v3c) : CV)] : List CV)).length) v7c) (.slice v1a t.waiting.length v1c)⟩,⟨41,a7 x (cS xa x xc)⟩],[],[a8 w.heap.size 41 25 (.slice v7a ((L ++ ([((x,.slice v3a x.r.held.length v3c) : CV)] : List CV)).length) v7c) ((L ++ ([((x,.slice v3a x.r.held.length v3c) : CV)] : List CV)).map az),a8 w.heap.size 41 25 (.slice (some ⟨g5,0,none⟩) 1 1) (([((x,.slice v3a x.r.held.length v3c) : CV)] : List CV).map az),br w.heap.size (cS v3a x v3c) 2 (x.r.held.map pC),bc w.heap.size L,a8 w.heap.size 32 3 (.slice v1a t.waiting.length v1c) (t.waiting.map a5),aX (.slice Atc t.conns.length Ctc) 25 (t.conns.map az),bi t.conns,aX (.slice Atw t.waiting.length Ctw) 3 (t.waiting.map a5)]⟩ <| bE [2,3,11,12,13] [(13,aI (K6.wrap ((i : Int) + 1)))] [(13,aI ((i : Int) + 1))] (by rw [show (K6.wrap ((i : Int) + 1)) = ((i : Int) + 1) from ao (by omega) (by omega)]) (by kernel_rfl) ?_
 refine aY [2,3,11,12,13] [] ?_
 exact ⟨⟨(i + 1,(L ++ ([((x,.slice v3a x.r.held.length v3c) : CV)] : List CV)),v7a,v7c),⟨hlt,pl_snoc HL hx⟩⟩,e7 [2,3,0,4,5,6,7] <| (eX (fun _ _ _ _ h => gX (cs := L) (x := ((x,.slice v3a x.r.held.length v3c) : CV)) h)).trans <| kF 3 0 [2,3,11,12,13],by show (fun (i : Nat) (L : List CV) (A : Option Addr) (cap : Nat) => t.conns.length - i) (i + 1) (L ++ ([((x,.slice v3a x.r.held.length v3c) : CV)] : List CV)) v7a v7c < t.conns.length - i; (dsimp only; omega)⟩
 have h2p := of_decide_eq_false h2
 have hge : i = t.conns.length := by simp at h2; omega
 refine bY <| kQ <| bN [2] [(2,.p 1 0)] 1 ⟨27,ba { t with conns := L } (.slice A L.length cap) (.slice v1a t.waiting.length v1c)⟩ <| kR ?_
 have hmc : pl L = pl t.conns := by exact pl_take_all HL hge
 exact ⟨[.agg (ba { t with conns := L } (.slice A L.length cap) (.slice v1a t.waiting.length v1c)).toArray],by kernel_rfl,fun w' hb hf ha => by exact xo3 (⟨L,hmc⟩,(A,cap),(v1a,v1c)) rfl rfl (pW (hf _ m1) hB) (pH (hf _ m0) hB) (pW (hf _ m2) hB) (Apart.sub3 ha [1,0,2] rfl (by decide) rfl rfl rfl (by exact fun b h => h) (fun b h => ea h) (by exact fun b h => h)) hb⟩
theorem ysPutConn_c (t : Tab) (t_connsV : Value) (t_waitingV : Value) (c : Con) (rV : Value) (l : Lim) (w : World) (hl_t_connsV : Sl w t_connsV 25 (t.conns.map az)) (hh_t_connsV : ∀ x ∈ t.conns, Sl w x.2 2 (x.1.r.held.map pC)) (hl_t_waitingV : Sl w t_waitingV 3 (t.waiting.map a5)) (hZ : Sl w rV 2 (c.r.held.map pC)) (hfit : ∀ x ∈ t.conns, bj x.1) (hln : t.conns.length ≤ 1048576) (hlw : t.waiting.length ≤ 1048576) (hfc : bj c) (B : Nat) (hB : B ≤ w.heap.size) : Calls Tryz.prog 12 #[.agg (ba t t_connsV t_waitingV).toArray, .agg (a7 c rV).toArray, .agg (c9 l).toArray] w fun e w' => XRs w w' e (α := {cs : List CV // pl cs = putP t c l} × (Option Addr × Nat) × (Option Addr × Nat)) (fun y => .tuple #[.agg #[.slice y.2.1.1 y.1.1.length y.2.1.2, .slice y.2.2.1 ((gn t c l).length) y.2.2.2], .bool (putOk t c l)]) (fun y => [a8 B 41 25 (.slice y.2.1.1 y.1.1.length y.2.1.2) (y.1.1.map az), bc B y.1.1, a8 B 32 3 (.slice y.2.2.1 ((gn t c l).length) y.2.2.2) ((gn t c l).map a5)]) := by
 obtain ⟨Atc,Ctc,hvtc⟩ := hl_t_connsV.form
 rw [List.length_map] at hvtc; subst hvtc
 have hntc := hl_t_connsV.len; rw [List.length_map] at hntc
 have hqtc := Sl.capLe hl_t_connsV
 obtain ⟨Atw,Ctw,hvtw⟩ := hl_t_waitingV.form
 rw [List.length_map] at hvtw; subst hvtw
 have hntw := hl_t_waitingV.len; rw [List.length_map] at hntw
 have hqtw := Sl.capLe hl_t_waitingV
 obtain ⟨Z,Y,hY⟩ := hZ.form
 rw [List.length_map] at hY; subst hY
 have hJ := hZ.len; rw [List.length_map] at hJ
 have hqcrh := Sl.capLe hZ
 have hkc := hfc.2.2.1
 refine bA (args := [.agg (ba t (.slice Atc t.conns.length Ctc) (.slice Atw t.waiting.length Ctw)).toArray,.agg (a7 c (cS Z c Y)).toArray,.agg (c9 l).toArray]) (fn := Tryz.f12) [aX (.slice Atc t.conns.length Ctc) 25 (t.conns.map az),bi t.conns,aX (.slice Atw t.waiting.length Ctw) 3 (t.waiting.map a5),cH Z c Y] Tryz.func12 rfl Tryz.ntmps12 rfl (by simp only [List.mem_cons,List.not_mem_nil,or_false,forall_eq_or_imp,forall_eq]; exact ⟨⟨rfl,hl_t_connsV⟩,⟨rfl,hh_t_connsV⟩,⟨rfl,hl_t_waitingV⟩,⟨rfl,hZ⟩⟩) ?_
 refine kQ <| cy [3,4,5,6] ⟨[(3,.p 0 0),(4,.p 1 0),(5,.p 2 0),(6,.p 3 0)],[⟨27,ba t (.slice Atc t.conns.length Ctc) (.slice Atw t.waiting.length Ctw)⟩,⟨41,a7 c (cS Z c Y)⟩,⟨43,c9 l⟩,⟨27,[.slice none 0 0,.slice none 0 0]⟩],[],[aX (.slice Atc t.conns.length Ctc) 25 (t.conns.map az),bi t.conns,aX (.slice Atw t.waiting.length Ctw) 3 (t.waiting.map a5),cH Z c Y]⟩ <| kQ <| dS 1 [3,4,5,6,9] [(9,.v (.agg (ba t (.slice Atc t.conns.length Ctc) (.slice Atw t.waiting.length Ctw)).toArray))] 32 [.agg (ba t (.slice Atc t.conns.length Ctc) (.slice Atw t.waiting.length Ctw)).toArray] (some 10) rfl (cx fun ww hw hf => yl25Copy_c t (.slice Atc t.conns.length Ctc) (.slice Atw t.waiting.length Ctw) ww (hf _ m0) (hf _ m1) (hf _ m2) (by first | assumption | (dsimp only; assumption)) (by first | assumption | omega | (dsimp only; omega)) (by first | assumption | omega | (dsimp only; omega)) w.heap.size hw) ?_
 rintro ⟨⟨t1l,ht1l⟩,⟨t1a,t1c⟩,⟨t1d,t1e⟩⟩
 dsimp only
 have hfit_t1l : ∀ x ∈ t1l,bj x.1 := gb ht1l (by assumption)
 have hlen_t1l := pl_len ht1l
 refine gU [3,4,5,6,8] [(8,.p 4 0)] [⟨27,ba { t with conns := t1l } (.slice t1a t1l.length t1c) (.slice t1d t.waiting.length t1e)⟩] <| kS <| dK (α := Option Addr × Nat × Option Addr × Nat × Nat) (fun y => (fun (v2a : Option Addr) (v2c : Nat) (v6a : Option Addr) (v6c : Nat) (g4 : Nat) => (⟨[(3,.p 0 0),(4,.p 1 0),(5,.p 2 0),(6,.p 3 0),(8,.p 4 0)],[⟨27,ba t (.slice Atc t.conns.length Ctc) (.slice Atw t.waiting.length Ctw)⟩,⟨41,a7 c (cS Z c Y)⟩,⟨43,c9 l⟩,⟨27,[.slice none 0 0,.slice none 0 0]⟩,⟨27,ba { t with conns := (t1l ++ ([((c,.slice v2a c.r.held.length v2c) : CV)] : List CV)) } (.slice v6a ((t1l ++ ([((c,.slice v2a c.r.held.length v2c) : CV)] : List CV)).length) v6c) (.slice t1d t.waiting.length t1e)⟩],[],[a8 w.heap.size 41 25 (.slice v6a ((t1l ++ ([((c,.slice v2a c.r.held.length v2c) : CV)] : List CV)).length) v6c) ((t1l ++ ([((c,.slice v2a c.r.held.length v2c) : CV)] : List CV)).map az),a8 w.heap.size 41 25 (.slice (some ⟨g4,0,none⟩) 1 1) (([((c,.slice v2a c.r.held.length v2c) : CV)] : List CV).map az),br w.heap.size (cS v2a c v2c) 2 (c.r.held.map pC),bc w.heap.size t1l,a8 w.heap.size 32 3 (.slice t1d t.waiting.length t1e) (t.waiting.map a5),aX (.slice Atc t.conns.length Ctc) 25 (t.conns.map az),bi t.conns,aX (.slice Atw t.waiting.length Ctw) 3 (t.waiting.map a5),cH Z c Y]⟩ : St)) y.1 y.2.1 y.2.2.1 y.2.2.2.1 y.2.2.2.2) ?_ ?_
 refine aF [true,true,true,true,false] (by kernel_rfl) (fun ρ σ => ?_)
 refine cQ [0,2] [13,11,3,4,5,6,8] 6 [(13,.v (.agg (a7 c (cS Z c Y)).toArray)),(11,.p 4 0)] <| kA [1,3] ⟨?_,?_⟩
 refine dH 1 (.v (.slice t1a t1l.length t1c)) rfl <| kA [3] <| cE 3 28 [.agg (a7 c (cS Z c Y)).toArray] (some 14) rfl (cx fun ww hw hf => c8 c (cS Z c Y) ww (hf _ m6) (by assumption) w.heap.size hw) ?_
 rintro ⟨v2a,v2c⟩
 refine kA [4] <| dq 4 rfl (a6 (a6 (a6 (a6 (au rfl a9))))) (aR (e := 41) (K := 25) (bytes := 208) [.agg (a7 c (cS v2a c v2c)).toArray] (rs := ([((c,.slice v2a c.r.held.length v2c) : CV)] : List CV).map az) (by rfl) rfl) ?_
 intro g4
 refine kA [5] <| dq 5 rfl (a6 (a6 (a6 (a6 (au rfl a9))))) (aT (e := 41) (K := 25) (bytes := 208) (i := 2) (q := (t1l ++ ([((c,.slice v2a c.r.held.length v2c) : CV)] : List CV)).length) (new := ([((c,.slice v2a c.r.held.length v2c) : CV)] : List CV).map az) (rs' := (t1l ++ ([((c,.slice v2a c.r.held.length v2c) : CV)] : List CV)).map az) rfl rfl rfl rfl (by kernel_rfl) (by kernel_rfl) (by kernel_rfl) rfl (by simp) (by rw [List.map_append]) (by simp) (fun ww hf => (aw (hf (a8 w.heap.size 41 25 (.slice (some ⟨g4,0,none⟩) 1 1) (([((c,.slice v2a c.r.held.length v2c) : CV)] : List CV).map az)) (by simp)))) (by intro r hr; simp only [List.map_cons,List.map_nil,List.mem_singleton] at hr; subst hr; exact ⟨rfl,by simp [az,a7,Value.oneCell']⟩) (by (try simp only [List.length_map,List.length_append,List.length_cons,List.length_nil,List.length_take,List.length_drop,maxLen]); omega) (by (try simp only [List.length_map,List.length_append,List.length_cons,List.length_nil,List.length_take,List.length_drop,maxLen]); omega)) ?_
 rintro ⟨v6a,v6c⟩
 refine cQ [6] [17,16,3,4,5,6,8] 1 [(17,.p 4 0)] <| kA [7] <| du 7 4 0 [.slice v6a ((t1l ++ ([((c,.slice v2a c.r.held.length v2c) : CV)] : List CV)).length) v6c] rfl <| kZ ?_
 exact ⟨(v2a,v2c,v6a,v6c,g4),kF 5 0 [3,4,5,6,8]⟩
 refine cE 3 28 [.agg (a7 c (cS Z c Y)).toArray] (some 14) rfl (cx fun ww hw hf => c8 c (cS Z c Y) ww (hf _ m6) (by assumption) w.heap.size hw) ?_
 rintro ⟨v7a,v7c⟩
 refine kA [1,4] ⟨?_,?_⟩
 refine dH 1 (.v (.slice t1a t1l.length t1c)) rfl <| kA [4] <| dq 4 rfl (a6 (a6 (a6 (a6 (au rfl a9))))) (aR (e := 41) (K := 25) (bytes := 208) [.agg (a7 c (cS v7a c v7c)).toArray] (rs := ([((c,.slice v7a c.r.held.length v7c) : CV)] : List CV).map az) (by rfl) rfl) ?_
 intro g10
 refine kA [5] <| dq 5 rfl (a6 (a6 (a6 (a6 (au rfl a9))))) (aT (e := 41) (K := 25) (bytes := 208) (i := 2) (q := (t1l ++ ([((c,.slice v7a c.r.held.length v7c) : CV)] : List CV)).length) (new := ([((c,.slice v7a c.r.held.length v7c) : CV)] : List CV).map az) (rs' := (t1l ++ ([((c,.slice v7a c.r.held.length v7c) : CV)] : List CV)).map az) rfl rfl rfl rfl (by kernel_rfl) (by kernel_rfl) (by kernel_rfl) rfl (by simp) (by rw [List.map_append]) (by simp) (fun ww hf => (aw (hf (a8 w.heap.size 41 25 (.slice (some ⟨g10,0,none⟩) 1 1) (([((c,.slice v7a c.r.held.length v7c) : CV)] : List CV).map az)) (by simp)))) (by intro r hr; simp only [List.map_cons,List.map_nil,List.mem_singleton] at hr; subst hr; exact ⟨rfl,by simp [az,a7,Value.oneCell']⟩) (by (try simp only [List.length_map,List.length_append,List.length_cons,List.length_nil,List.length_take,List.length_drop,maxLen]); omega) (by (try simp only [List.length_map,List.length_append,List.length_cons,List.length_nil,List.length_take,List.length_drop,maxLen]); omega)) ?_
 rintro ⟨v12a,v12c⟩
 refine cQ [6] [17,16,3,4,5,6,8] 1 [(17,.p 4 0)] <| kA [7] <| du 7 4 0 [.slice v12a ((t1l ++ ([((c,.slice v7a c.r.held.length v7c) : CV)] : List CV)).length) v12c] rfl <| kZ ?_
 exact ⟨(v7a,v7c,v12a,v12c,g10),kF 5 0 [3,4,5,6,8]⟩
 refine dq 4 rfl (a6 (a6 (a6 (a6 (au rfl a9))))) (aR (e := 41) (K := 25) (bytes := 208) [.agg (a7 c (cS v7a c v7c)).toArray] (rs := ([((c,.slice v7a c.r.held.length v7c) : CV)] : List CV).map az) (by rfl) rfl) ?_
 intro g13
 refine kA [1] <| dH 1 (.v (.slice t1a t1l.length t1c)) rfl <| kA [5] <| dq 5 rfl (a6 (a6 (a6 (a6 (au rfl a9))))) (aT (e := 41) (K := 25) (bytes := 208) (i := 2) (q := (t1l ++ ([((c,.slice v7a c.r.held.length v7c) : CV)] : List CV)).length) (new := ([((c,.slice v7a c.r.held.length v7c) : CV)] : List CV).map az) (rs' := (t1l ++ ([((c,.slice v7a c.r.held.length v7c) : CV)] : List CV)).map az) rfl rfl rfl rfl (by kernel_rfl) (by kernel_rfl) (by kernel_rfl) rfl (by simp) (by rw [List.map_append]) (by simp) (fun ww hf => (aw (hf (a8 w.heap.size 41 25 (.slice (some ⟨g13,0,none⟩) 1 1) (([((c,.slice v7a c.r.held.length v7c) : CV)] : List CV).map az)) (by simp)))) (by intro r hr; simp only [List.map_cons,List.map_nil,List.mem_singleton] at hr; subst hr; exact ⟨rfl,by simp [az,a7,Value.oneCell']⟩) (by (try simp only [List.length_map,List.length_append,List.length_cons,List.length_nil,List.length_take,List.length_drop,maxLen]); omega) (by (try simp only [List.length_map,List.length_append,List.length_cons,List.length_nil,List.length_take,List.length_drop,maxLen]); omega)) ?_
 rintro ⟨v15a,v15c⟩
 refine cQ [6] [17,16,3,4,5,6,8] 1 [(17,.p 4 0)] <| kA [7] <| du 7 4 0 [.slice v15a ((t1l ++ ([((c,.slice v7a c.r.held.length v7c) : CV)] : List CV)).length) v15c] rfl <| kZ ?_
 exact ⟨(v7a,v7c,v15a,v15c,g13),kF 5 0 [3,4,5,6,8]⟩
 rintro ⟨v2a,v2c,v6a,v6c,g4⟩
 refine kQ <| xl_hv 4 [3,5,6,8,19,21] ⟨[(3,.p 0 0),(5,.p 2 0),(6,.p 3 0),(8,.p 4 0),(19,.v (.slice t1d t.waiting.length t1e)),(21,.v (.agg (bt c.t).toArray))],[⟨27,ba t (.slice Atc t.conns.length Ctc) (.slice Atw t.waiting.length Ctw)⟩,⟨41,a7 c (cS Z c Y)⟩,⟨43,c9 l⟩,⟨27,[.slice none 0 0,.slice none 0 0]⟩,⟨27,ba { t with conns := (t1l ++ ([((c,.slice v2a c.r.held.length v2c) : CV)] : List CV)) } (.slice v6a ((t1l ++ ([((c,.slice v2a c.r.held.length v2c) : CV)] : List CV)).length) v6c) (.slice t1d t.waiting.length t1e)⟩],[],[a8 w.heap.size 41 25 (.slice v6a ((t1l ++ ([((c,.slice v2a c.r.held.length v2c) : CV)] : List CV)).length) v6c) ((t1l ++ ([((c,.slice v2a c.r.held.length v2c) : CV)] : List CV)).map az),a8 w.heap.size 41 25 (.slice (some ⟨g4,0,none⟩) 1 1) (([((c,.slice v2a c.r.held.length v2c) : CV)] : List CV).map az),br w.heap.size (cS v2a c v2c) 2 (c.r.held.map pC),bc w.heap.size t1l,a8 w.heap.size 32 3 (.slice t1d t.waiting.length t1e) (t.waiting.map a5),aX (.slice Atc t.conns.length Ctc) 25 (t.conns.map az),bi t.conns,aX (.slice Atw t.waiting.length Ctw) 3 (t.waiting.map a5),cH Z c Y]⟩ (by kernel_rfl) rfl (by kernel_rfl) rfl (by kernel_rfl) (aR (e := 32) (K := 3) (bytes := 24) [.agg (bt c.t).toArray] (rs := ([c.t] : List Tup).map a5) rfl rfl) ?_
 intro g16
 refine kHD 0 [3,5,6,8,19,22] [] rfl (aT (e := 32) (K := 3) (bytes := 24) (i := 5) (q := (t.waiting ++ ([c.t] : List Tup)).length) (new := ([c.t] : List Tup).map a5) (rs' := (t.waiting ++ ([c.t] : List Tup)).map a5) rfl rfl rfl rfl (by kernel_rfl) (by kernel_rfl) (by kernel_rfl) rfl (by simp) (by rw [List.map_append]) (by simp) (fun ww hf => (aw (hf (a8 w.heap.size 32 3 (.slice (some ⟨g16,0,none⟩) 1 1) (([c.t] : List Tup).map a5)) (by simp)))) (by intro r hr; obtain ⟨x,hx,rfl⟩ := List.mem_map.1 hr; exact ⟨rfl,by simp [a5,Value.oneCell']⟩) (by (try simp only [List.length_map,List.length_append,List.length_cons,List.length_nil,List.length_take,List.length_drop,maxLen]); omega) (by (try simp only [List.length_map,List.length_append,List.length_cons,List.length_nil,List.length_take,List.length_drop,maxLen]); omega)) ?_
 rintro ⟨v17a,v17c⟩
 refine bN [3,5,6,8] [] 4 ⟨27,[.slice v6a ((t1l ++ ([((c,.slice v2a c.r.held.length v2c) : CV)] : List CV)).length) v6c,.slice v17a ((t.waiting ++ ([c.t] : List Tup)).length) v17c]⟩ <| kS <| kS <| gY ((fP [4,5,0,1,2,3,6,7,8,9] [br w.heap.size (cS v2a c v2c) 2 (c.r.held.map pC),bc w.heap.size t1l,a8 w.heap.size 32 3 (.slice v17a ((t.waiting ++ ([c.t] : List Tup)).length) v17c) ((t.waiting ++ ([c.t] : List Tup)).map a5),a8 w.heap.size 32 3 (.slice (some ⟨g16,0,none⟩) 1 1) (([c.t] : List Tup).map a5),a8 w.heap.size 41 25 (.slice v6a ((t1l ++ ([((c,.slice v2a c.r.held.length v2c) : CV)] : List CV)).length) v6c) ((t1l ++ ([((c,.slice v2a c.r.held.length v2c) : CV)] : List CV)).map az),a8 w.heap.size 41 25 (.slice (some ⟨g4,0,none⟩) 1 1) (([((c,.slice v2a c.r.held.length v2c) : CV)] : List CV).map az),aX (.slice Atc t.conns.length Ctc) 25 (t.conns.map az),bi t.conns,aX (.slice Atw t.waiting.length Ctw) 3 (t.waiting.map a5),cH Z c Y] (by kernel_rfl) (by kernel_rfl)).trans (eX (fun _ _ _ _ h => gX (cs := t1l) (x := ((c,.slice v2a c.r.held.length v2c) : CV)) h))) ?_
 have hfn := fit_snoc (L := t1l) (c := c) (v := .slice v2a c.r.held.length v2c) hfit_t1l hfc
 have hpo := put_ok (t := t) (c := c) (l := l) (L := t1l) (v := .slice v2a c.r.held.length v2c) (W := (t.waiting ++ ([c.t] : List Tup))) ht1l rfl
 refine kG <| kCF 2 [3,6,8,25,26] ⟨[(3,.p 0 0),(6,.p 3 0),(8,.p 4 0),(25,.v (.agg #[.slice v6a ((t1l ++ ([((c,.slice v2a c.r.held.length v2c) : CV)] : List CV)).length) v6c,.slice v17a ((t.waiting ++ ([c.t] : List Tup)).length) v17c])),(26,.v (.agg (c9 l).toArray))],[⟨27,ba t (.slice Atc t.conns.length Ctc) (.slice Atw t.waiting.length Ctw)⟩,⟨41,a7 c (cS Z c Y)⟩,⟨43,c9 l⟩,⟨27,[.slice none 0 0,.slice none 0 0]⟩,⟨27,[.slice v6a ((t1l ++ ([((c,.slice v2a c.r.held.length v2c) : CV)] : List CV)).length) v6c,.slice v17a ((t.waiting ++ ([c.t] : List Tup)).length) v17c]⟩],[],[bc w.heap.size (t1l ++ ([((c,.slice v2a c.r.held.length v2c) : CV)] : List CV)),a8 w.heap.size 32 3 (.slice v17a ((t.waiting ++ ([c.t] : List Tup)).length) v17c) ((t.waiting ++ ([c.t] : List Tup)).map a5),a8 w.heap.size 32 3 (.slice (some ⟨g16,0,none⟩) 1 1) (([c.t] : List Tup).map a5),a8 w.heap.size 41 25 (.slice v6a ((t1l ++ ([((c,.slice v2a c.r.held.length v2c) : CV)] : List CV)).length) v6c) ((t1l ++ ([((c,.slice v2a c.r.held.length v2c) : CV)] : List CV)).map az),a8 w.heap.size 41 25 (.slice (some ⟨g4,0,none⟩) 1 1) (([((c,.slice v2a c.r.held.length v2c) : CV)] : List CV).map az),aX (.slice Atc t.conns.length Ctc) 25 (t.conns.map az),bi t.conns,aX (.slice Atw t.waiting.length Ctw) 3 (t.waiting.map a5),cH Z c Y]⟩ 14 [.agg #[.slice v6a ((t1l ++ ([((c,.slice v2a c.r.held.length v2c) : CV)] : List CV)).length) v6c,.slice v17a ((t.waiting ++ ([c.t] : List Tup)).length) v17c],.agg (c9 l).toArray] (some 27) rfl (bu fun ww hf => ysTableOk_c (⟨(t1l ++ ([((c,.slice v2a c.r.held.length v2c) : CV)] : List CV)),(t.waiting ++ ([c.t] : List Tup))⟩) (.slice v6a ((t1l ++ ([((c,.slice v2a c.r.held.length v2c) : CV)] : List CV)).length) v6c) (.slice v17a ((t.waiting ++ ([c.t] : List Tup)).length) v17c) l ww (aw (hf _ m3)) (eS (hf _ m0)) (aw (hf _ m1)) (by assumption)) ?_
 intro _
 refine aY [3,6,8,28] [(28,aB (!(cq (⟨(t1l ++ ([((c,.slice v2a c.r.held.length v2c) : CV)] : List CV)),(t.waiting ++ ([c.t] : List Tup))⟩) l)))] <| kC (!(cq (⟨(t1l ++ ([((c,.slice v2a c.r.held.length v2c) : CV)] : List CV)),(t.waiting ++ ([c.t] : List Tup))⟩) l)) (fun h18 => ?_) (fun h18 => ?_)
 have h18n := cd h18
 have hpv : putOk t c l = false := hpo.symm.trans h18n
 refine kQ <| dS 1 [6,29] [(29,.v (.agg (ba t (.slice Atc t.conns.length Ctc) (.slice Atw t.waiting.length Ctw)).toArray))] 32 [.agg (ba t (.slice Atc t.conns.length Ctc) (.slice Atw t.waiting.length Ctw)).toArray] (some 30) rfl (cx fun ww hw hf => yl25Copy_c t (.slice Atc t.conns.length Ctc) (.slice Atw t.waiting.length Ctw) ww (hf _ m5) (hf _ m6) (hf _ m7) (by first | assumption | (dsimp only; assumption)) (by first | assumption | omega | (dsimp only; omega)) (by first | assumption | omega | (dsimp only; omega)) w.heap.size hw) ?_
 rintro ⟨⟨t19l,ht19l⟩,⟨t19a,t19c⟩,⟨t19d,t19e⟩⟩
 dsimp only
 have hfit_t19l : ∀ x ∈ t19l,bj x.1 := gb ht19l (by assumption)
 have hlen_t19l := pl_len ht19l
 refine bN [6,7] [(7,aB false)] 3 ⟨27,ba { t with conns := t19l } (.slice t19a t19l.length t19c) (.slice t19d t.waiting.length t19e)⟩ <| kR ?_
 have hmc : pl t19l = putP t c l := by unfold putP; rw [hpv,if_neg (by decide),ht19l]
 have hmw : (gn t c l) = t.waiting := by unfold gn; rw [hpv]; rfl
 have hm0 : (putOk t c l) = false := by exact hpv
 exact ⟨[.agg (ba { t with conns := t19l } (.slice t19a t19l.length t19c) (.slice t19d t.waiting.length t19e)).toArray,.bool false],by kernel_rfl,fun w' hb hf ha => by rw [hmw,hm0]; exact xo3 (⟨t19l,hmc⟩,(t19a,t19c),(t19d,t19e)) rfl rfl (pW (hf _ m0) hB) (pH (hf _ m1) hB) (pW (hf _ m2) hB) (Apart.sub3 ha [0,1,2] rfl (by decide) rfl rfl rfl (by exact fun b h => h) (fun b h => ea h) (by exact fun b h => h)) hb⟩
 have h18n := bS h18
 have hpv : putOk t c l = true := hpo.symm.trans h18n
 refine kK <| kQ <| bN [6,7] [(7,aB true)] 3 ⟨27,[.slice v6a ((t1l ++ ([((c,.slice v2a c.r.held.length v2c) : CV)] : List CV)).length) v6c,.slice v17a ((t.waiting ++ ([c.t] : List Tup)).length) v17c]⟩ <| kR ?_
 have hmc : pl (t1l ++ ([((c,.slice v2a c.r.held.length v2c) : CV)] : List CV)) = putP t c l := by unfold putP; rw [hpv,if_pos rfl,pl_snocc,ht1l]
 have hmw : (gn t c l) = (t.waiting ++ ([c.t] : List Tup)) := by unfold gn; rw [hpv]; rfl
 have hm0 : (putOk t c l) = true := by exact hpv
 exact ⟨[.agg #[.slice v6a ((t1l ++ ([((c,.slice v2a c.r.held.length v2c) : CV)] : List CV)).length) v6c,.slice v17a ((t.waiting ++ ([c.t] : List Tup)).length) v17c],.bool true],by kernel_rfl,fun w' hb hf ha => by rw [hmw,hm0]; exact xo3 (⟨(t1l ++ ([((c,.slice v2a c.r.held.length v2c) : CV)] : List CV)),hmc⟩,(v6a,v6c),(v17a,v17c)) rfl rfl (pW (hf _ m3) hB) (pH (hf _ m0) hB) (pW (hf _ m1) hB) (Apart.sub3 ha [3,0,1] rfl (by decide) rfl rfl rfl (by exact fun b h => h) (fun b h => ea h) (by exact fun b h => h)) hb⟩
theorem ysTakeWaiting_c (t : Tab) (t_connsV : Value) (t_waitingV : Value) (w : World) (hl_t_connsV : Sl w t_connsV 25 (t.conns.map az)) (hh_t_connsV : ∀ x ∈ t.conns, Sl w x.2 2 (x.1.r.held.map pC)) (hl_t_waitingV : Sl w t_waitingV 3 (t.waiting.map a5)) (hfit : ∀ x ∈ t.conns, bj x.1) (hln : t.conns.length ≤ 1048576) (hlw : t.waiting.length ≤ 1048576) (B : Nat) (hB : B ≤ w.heap.size) : Calls Tryz.prog 70 #[.agg (ba t t_connsV t_waitingV).toArray] w fun e w' => XRs w w' e (α := {cs : List CV // pl cs = pl t.conns} × (Option Addr × Nat) × (Option Addr × Nat)) (fun y => .tuple #[.agg #[.slice y.2.1.1 y.1.1.length y.2.1.2, .slice y.2.2.1 ((fE t).length) y.2.2.2], .agg (bt (t.waiting.headD ⟨0, 0, 0⟩)).toArray, .bool (!t.waiting.isEmpty)]) (fun y => [a8 B 41 25 (.slice y.2.1.1 y.1.1.length y.2.1.2) (y.1.1.map az), bc B y.1.1, a8 B 32 3 (.slice y.2.2.1 ((fE t).length) y.2.2.2) ((fE t).map a5)]) := by
 obtain ⟨Atc,Ctc,hvtc⟩ := hl_t_connsV.form
 rw [List.length_map] at hvtc; subst hvtc
 have hntc := hl_t_connsV.len; rw [List.length_map] at hntc
 have hqtc := Sl.capLe hl_t_connsV
 obtain ⟨Atw,Ctw,hvtw⟩ := hl_t_waitingV.form
 rw [List.length_map] at hvtw; subst hvtw
 have hntw := hl_t_waitingV.len; rw [List.length_map] at hntw
 have hqtw := Sl.capLe hl_t_waitingV
 refine bA (args := [.agg (ba t (.slice Atc t.conns.length Ctc) (.slice Atw t.waiting.length Ctw)).toArray]) (fn := Tryz.f70) [aX (.slice Atc t.conns.length Ctc) 25 (t.conns.map az),bi t.conns,aX (.slice Atw t.waiting.length Ctw) 3 (t.waiting.map a5)] Tryz.func70 rfl Tryz.ntmps70 rfl (by simp only [List.mem_cons,List.not_mem_nil,or_false,forall_eq_or_imp,forall_eq]; exact ⟨⟨rfl,hl_t_connsV⟩,⟨rfl,hh_t_connsV⟩,⟨rfl,hl_t_waitingV⟩⟩) ?_
 refine kQ <| cy [1,2,3] ⟨[(1,.p 0 0),(2,.p 1 0),(3,.p 2 0)],[⟨27,ba t (.slice Atc t.conns.length Ctc) (.slice Atw t.waiting.length Ctw)⟩,⟨27,[.slice none 0 0,.slice none 0 0]⟩,⟨32,bt (⟨0,0,0⟩ : Tup)⟩],[],[aX (.slice Atc t.conns.length Ctc) 25 (t.conns.map az),bi t.conns,aX (.slice Atw t.waiting.length Ctw) 3 (t.waiting.map a5)]⟩ <| kQ <| dS 1 [1,2,3,6] [(6,.v (.agg (ba t (.slice Atc t.conns.length Ctc) (.slice Atw t.waiting.length Ctw)).toArray))] 32 [.agg (ba t (.slice Atc t.conns.length Ctc) (.slice Atw t.waiting.length Ctw)).toArray] (some 7) rfl (cx fun ww hw hf => yl25Copy_c t (.slice Atc t.conns.length Ctc) (.slice Atw t.waiting.length Ctw) ww (hf _ m0) (hf _ m1) (hf _ m2) (by first | assumption | (dsimp only; assumption)) (by first | assumption | omega | (dsimp only; omega)) (by first | assumption | omega | (dsimp only; omega)) w.heap.size hw) ?_
 rintro ⟨⟨t1l,ht1l⟩,⟨t1a,t1c⟩,⟨t1d,t1e⟩⟩
 dsimp only
 have hfit_t1l : ∀ x ∈ t1l,bj x.1 := gb ht1l (by assumption)
 have hlen_t1l := pl_len ht1l
 refine gU [1,2,3,5] [(5,.p 3 0)] [⟨27,ba { t with conns := t1l } (.slice t1a t1l.length t1c) (.slice t1d t.waiting.length t1e)⟩] <| kS <| kQ <| aY [1,2,3,5,11] [(11,aB (((t.waiting.length : Nat) : Int) == 0))] ?_
 refine kC (((t.waiting.length : Nat) : Int) == 0) (fun h2 => ?_) (fun h2 => ?_)
 have h2p := cD h2
 have hnil : t.waiting = [] := List.eq_nil_of_length_eq_zero (by have := cD h2; omega)
 refine kQ <| fS 1 [2,3,12] [(12,.v (.agg (ba { t with conns := t1l } (.slice t1a t1l.length t1c) (.slice t1d t.waiting.length t1e)).toArray))] (.agg (bt (⟨0,0,0⟩ : Tup)).toArray) rfl (fun _ _ _ ww hr => aA [] hr.1 rfl (by kernel_rfl) (by kernel_rfl) ww) ?_
 refine bN [2,3,4] [(4,aB false)] 1 ⟨27,ba { t with conns := t1l } (.slice t1a t1l.length t1c) (.slice t1d t.waiting.length t1e)⟩ <| kR ?_
 have hmc : pl t1l = pl t.conns := by exact ht1l
 have hmw : (fE t) = t.waiting := by unfold fE; rw [hnil]; rfl
 have hm0 : (t.waiting.headD ⟨0,0,0⟩) = (⟨0,0,0⟩) := by first | (rw [hnil]; rfl) | (cases hw : t.waiting with | nil => rw [hw] at hx; cases hx | cons y r => rw [hw] at hx; simpa using hx)
 have hm1 : (!t.waiting.isEmpty) = false := by first | (rw [hnil]; rfl) | (cases hw : t.waiting with | nil => rw [hw] at hx; cases hx | cons y r => rfl)
 exact ⟨[.agg (ba { t with conns := t1l } (.slice t1a t1l.length t1c) (.slice t1d t.waiting.length t1e)).toArray,.agg (bt (⟨0,0,0⟩ : Tup)).toArray,.bool false],by kernel_rfl,fun w' hb hf ha => by rw [hmw,hm0,hm1]; exact xo3 (⟨t1l,hmc⟩,(t1a,t1c),(t1d,t1e)) rfl rfl (pW (hf _ m0) hB) (pH (hf _ m1) hB) (pW (hf _ m2) hB) (Apart.sub3 ha [0,1,2] rfl (by decide) rfl rfl rfl (by exact fun b h => h) (fun b h => ea h) (by exact fun b h => h)) hb⟩
 have h2p := cA h2
 have hpos : 0 < t.waiting.length := by have := cA h2; omega
 obtain ⟨x,hx⟩ : ∃ x,t.waiting[0]? = some x := ⟨_,List.getElem?_eq_getElem hpos⟩
 have hwl := takeW_len t
 refine kK <| kQ <| kHD 0 [1,2,3,5] [] rfl (aR (e := 32) (K := 3) (bytes := 24) [] (rs := ([] : List Tup).map a5) rfl rfl) ?_
 intro g3
 refine fS 2 [1,2,3,5,14,16] [(16,.v (.slice Atw t.waiting.length Ctw))] (.slice (if Ctw = 1 then Atw else Atw.map (·.add (1 * 3))) (t.waiting.length - 1) (Ctw - 1)) rfl (fun _ _ _ ww hr => act_slVe (e := 32) 1 hr.1 rfl (by kernel_rfl) (by kernel_rfl) rfl rfl rfl (by omega) ww) ?_
 refine kHD 0 [1,2,3,5,14,17] [] rfl (aT (e := 32) (K := 3) (bytes := 24) (i := 0) (q := ((t.waiting.drop 1).take (t.waiting.length - 1)).length) (new := ((t.waiting.drop 1).take (t.waiting.length - 1)).map a5) (rs' := ((t.waiting.drop 1).take (t.waiting.length - 1)).map a5) rfl rfl rfl rfl (by kernel_rfl) (by kernel_rfl) (by kernel_rfl) rfl (by first | (simp; done) | (simp; omega)) rfl (by first | (simp; done) | (simp; omega)) (fun ww hf => (Sl.partM (hf (aX (.slice Atw t.waiting.length Ctw) 3 (t.waiting.map a5)) (by simp)) 1 t.waiting.length (by omega) (by omega))) (by intro r hr; obtain ⟨x,hx,rfl⟩ := List.mem_map.1 hr; exact ⟨rfl,by simp [a5,Value.oneCell']⟩) (by (try simp only [List.length_map,List.length_append,List.length_cons,List.length_nil,List.length_take,List.length_drop,maxLen]); omega) (by (try simp only [List.length_map,List.length_append,List.length_cons,List.length_nil,List.length_take,List.length_drop,maxLen]); omega)) ?_
 rintro ⟨v4a,v4c⟩
 refine bN [1,2,3,5] [] 3 ⟨27,[.slice t1a t1l.length t1c,.slice v4a (((t.waiting.drop 1).take (t.waiting.length - 1)).length) v4c]⟩ <| kS <| dx <| dr (K := 3) (j := 0) [iI x.ip,iI x.port,iI x.my] (aX (.slice Atw t.waiting.length Ctw) 3 (t.waiting.map a5)) (fun _ _ h => h) (by simp) (fun w h => h) (fun b h => h) (by simp only [List.getElem?_map,hx]; rfl) (fun bq5 offq5 hAq5 => ?_)
 refine ca [true,false,false,true] (by kernel_rfl) (fun ρ σ hq6 => ?_)
 refine cQ [0,1,2] [22,20,2,3] 5 [(22,.v (.slice Atw t.waiting.length Ctw)),(20,.v (.agg #[.slice t1a t1l.length t1c,.slice v4a (((t.waiting.drop 1).take (t.waiting.length - 1)).length) v4c]))] <| cM (kd := .i64) (T := 25) (e := 32) (K := 3) (j := 0) (A := Atw) (len := t.waiting.length) (cap := Ctw) 3 0 _ rfl (by kernel_rfl) (by kernel_rfl) (by kernel_rfl) (fun _ _ h => h) (by kernel_rfl) rfl rfl (by kernel_rfl) (by kernel_rfl) (by kernel_rfl) (by kernel_rfl) hpos hAq5 hq6.2 (by kernel_rfl) rfl ?_
 refine cQ [4] [24,20,2,3] 3 [(24,.v (.agg (bt x).toArray))] <| kA [5] <| du 5 1 0 [.slice t1a t1l.length t1c,.slice v4a (((t.waiting.drop 1).take (t.waiting.length - 1)).length) v4c] rfl <| kA [6] ?_
 refine du 6 2 0 (bt x) rfl <| cQ [7] [4,2,3] 0 [(4,aB true)] <| kZ <| kR ?_
 have hmc : pl t1l = pl t.conns := by exact ht1l
 have hmw : (fE t) = ((t.waiting.drop 1).take (t.waiting.length - 1)) := by unfold fE; rw [List.take_of_length_le (by simp)]
 have hm0 : (t.waiting.headD ⟨0,0,0⟩) = x := by first | (rw [hnil]; rfl) | (cases hw : t.waiting with | nil => rw [hw] at hx; cases hx | cons y r => rw [hw] at hx; simpa using hx)
 have hm1 : (!t.waiting.isEmpty) = true := by first | (rw [hnil]; rfl) | (cases hw : t.waiting with | nil => rw [hw] at hx; cases hx | cons y r => rfl)
 exact ⟨[.agg #[.slice t1a t1l.length t1c,.slice v4a (((t.waiting.drop 1).take (t.waiting.length - 1)).length) v4c],.agg (bt x).toArray,.bool true],by kernel_rfl,fun w' hb hf ha => by rw [hmw,hm0,hm1]; exact xo3 (⟨t1l,hmc⟩,(t1a,t1c),(v4a,v4c)) rfl rfl (pW (hf _ m1) hB) (pH (hf _ m2) hB) (pW (hf _ m0) hB) (Apart.sub3 ha [1,2,0] rfl (by decide) rfl rfl rfl (by exact fun b h => h) (fun b h => ea h) (by exact fun b h => h)) hb⟩
theorem yl18Free_c (l : List Int) (lV : Value) (m : Nat) (w : World) (hl_lV : Sl w lV 1 (l.map ay)) (hm : m ≤ l.length) : Calls Tryz.prog 130 #[lV, iI (m : Int)] w fun e w' => e = .returned (.bool (dP l m)) ∧ Below w.heap.size w w' := by
 obtain ⟨Al,Cl,hvl⟩ := hl_lV.form
 rw [List.length_map] at hvl; subst hvl
 have hnl := hl_lV.len; rw [List.length_map] at hnl
 have hql := Sl.capLe hl_lV
 refine bL (args := [.slice Al l.length Cl,iI (m : Int)]) (fn := Tryz.f130) [aX (.slice Al l.length Cl) 1 (l.map ay)] Tryz.func130 rfl Tryz.ntmps130 rfl (by simp only [List.mem_cons,List.not_mem_nil,or_false,forall_eq_or_imp,forall_eq]; exact ⟨rfl,hl_lV⟩) ?_
 refine kQ <| cy [0,1] ⟨[(0,.v (.slice Al l.length Cl)),(1,aI (m : Int))],[],[],[aX (.slice Al l.length Cl) 1 (l.map ay)]⟩ <| kS <| kQ <| aE [0,5] [(0,.v (.slice Al l.length Cl)),(5,aI (m : Int))] ?_
 refine ap <| bo (α := {x : Nat // (fun (k : Nat) => k ≤ l.length ∧ dP l m = dP l k) x}) (fun x => (fun (k : Nat) => (⟨[(0,.v (.slice Al l.length Cl)),(5,aI (k : Int))],[],[],[aX (.slice Al l.length Cl) 1 (l.map ay)]⟩ : St)) x.1) (fun x => l.length - x.1) ⟨(m),⟨hm,rfl⟩⟩ (kF 0 0 [0,5]) ?_
 rintro ⟨k,hk,HK⟩
 try dsimp only
 try dsimp only at hk HK
 refine kS <| kQ <| aE [0,5,10] [(0,.v (.slice Al l.length Cl)),(5,aI (k : Int)),(10,aB (decide ((k : Int) < ((l.length : Nat) : Int))))] <| kC (decide ((k : Int) < ((l.length : Nat) : Int))) (fun h1 => ?_) (fun h1 => ?_)
 have h1p := of_decide_eq_true h1
 have hlt : k < l.length := by simpa using h1
 obtain ⟨x,hx⟩ : ∃ x,l[k]? = some x := ⟨_,List.getElem?_eq_getElem hlt⟩
 have hfs := freeFrom_step hx
 refine kK <| kS <| ap <| kQ <| xl_indexS (kd := .i64) (T := 76) (e := 3) (K := 1) 2 [0,5,13,14] [(0,.v (.slice Al l.length Cl)),(5,aI (k : Int)),(13,.v (.slice Al l.length Cl)),(14,aI (k : Int))] k [iI x] (aX (.slice Al l.length Cl) 1 (l.map ay)) (by kernel_rfl) rfl (by kernel_rfl) rfl rfl (by kernel_rfl) (by kernel_rfl) (by kernel_rfl) (by kernel_rfl) hlt (by simp) (fun w h => h) (fun b h => h) (by simp only [List.getElem?_map,hx]; rfl) ?_
 refine aE [0,5,17] [(0,.v (.slice Al l.length Cl)),(5,aI (k : Int)),(17,aB (decide (x ≥ 0)))] <| kC (decide (x ≥ 0)) (fun h2 => ?_) (fun h2 => ?_)
 have h2p := of_decide_eq_true h2
 refine kQ <| aE [4] [(4,aB false)] <| kR ?_
 have hmod : dP l m = false := by first | (rw [HK]; exact hfe) | (rw [HK,hfs]; simp; omega) | (rw [HK,hfs]; simp [*])
 exact ⟨[.bool false],by kernel_rfl,fun w' hb hf => by rw [hmod]; exact ⟨rfl,hb⟩⟩
 have h2p := of_decide_eq_false h2
 refine kK <| kG <| eb 3 [0,5] [(0,.v (.slice Al l.length Cl)),(5,aI (K6.wrap ((k : Int) + 1)))] <| fD (t' := [(0,.v (.slice Al l.length Cl)),(5,aI ((k : Int) + 1))]) (by rw [show (K6.wrap ((k : Int) + 1)) = ((k : Int) + 1) from ao (by omega) (by omega)]) ?_
 refine aE [0,5] [(0,.v (.slice Al l.length Cl)),(5,aI ((k : Int) + 1))] ?_
 exact ⟨⟨(k + 1),⟨by omega,by rw [HK,hfs]; simp; omega⟩⟩,kF 0 0 [0,5],by show l.length - (k + 1) < l.length - k; omega⟩
 have h1p := of_decide_eq_false h1
 have hge : k = l.length := by simp at h1; omega
 have hfe := freeFrom_end l
 subst hge
 refine bY <| kQ <| aE [4] [(4,aB true)] <| kR ?_
 have hmod : dP l m = true := by first | (rw [HK]; exact hfe) | (rw [HK,hfs]; simp; omega) | (rw [HK,hfs]; simp [*])
 exact ⟨[.bool true],by kernel_rfl,fun w' hb hf => by rw [hmod]; exact ⟨rfl,hb⟩⟩
theorem yl18Slots_c (r : Rcv) (r_heldV : Value) (w : World) (hl_r_heldV : Sl w r_heldV 2 (r.held.map pC)) (hkn : r.held.length ≤ 1048576) (hheld : ∀ p ∈ r.held, 0 < p.off ∧ p.off + (p.text.size : Int) ≤ 32) (B : Nat) (hB : B ≤ w.heap.size) : Calls Tryz.prog 129 #[.agg (aa r r_heldV).toArray] w fun e w' => XRs w w' e (α := Option Addr × Nat) (fun y => .slice y.1 ((aZ r).length) y.2) (fun y => [a8 B 3 1 (.slice y.1 ((aZ r).length) y.2) ((aZ r).map ay)]) := by
 obtain ⟨Arh,Crh,hvrh⟩ := hl_r_heldV.form
 rw [List.length_map] at hvrh; subst hvrh
 have hnrh := hl_r_heldV.len; rw [List.length_map] at hnrh
 have hqrh := Sl.capLe hl_r_heldV
 refine bA (args := [.agg (aa r (.slice Arh r.held.length Crh)).toArray]) (fn := Tryz.f129) [aX (.slice Arh r.held.length Crh) 2 (r.held.map pC)] Tryz.func129 rfl Tryz.ntmps129 rfl (by simp only [List.mem_cons,List.not_mem_nil,or_false,forall_eq_or_imp,forall_eq]; exact ⟨rfl,hl_r_heldV⟩) ?_
 refine kQ <| cy [1] ⟨[(1,.p 0 0)],[⟨37,aa r (.slice Arh r.held.length Crh)⟩],[],[aX (.slice Arh r.held.length Crh) 2 (r.held.map pC)]⟩ <| kQ <| kHS 0 [1] [(1,.p 0 0)] rfl (hv_make (kl := .i64) (kc := .i64) (e := 3) (K := 1) (bytes := 8) (m := 33) (z := iI 0) (rs := (List.replicate 33 0).map ay) rfl (by kernel_rfl) (by kernel_rfl) (by kernel_rfl) (by kernel_rfl) (by (try simp only [List.length_map,List.length_append,List.length_cons,List.length_nil,List.length_take,List.length_drop,maxLen]); omega) (by (try simp only [List.length_map,List.length_append,List.length_cons,List.length_nil,List.length_take,List.length_drop,maxLen]); omega) (by rw [List.map_replicate]; rfl)) ?_
 intro g1
 refine aY [1,3] [(3,.v (.slice (some ⟨g1,0,none⟩) 33 33))] <| kS <| kQ <| aY [1,3,4] [(4,aI 0)] ?_
 refine ap <| bo (α := {x : Nat × List Int // (fun (k : Nat) (l : List Int) => k ≤ 33 ∧ l.length = 33 ∧ l.take k = List.replicate k (-1)) x.1 x.2}) (fun x => (fun (k : Nat) (l : List Int) => (⟨[(1,.p 0 0),(3,.v (.slice (some ⟨g1,0,none⟩) 33 33)),(4,aI (k : Int))],[⟨37,aa r (.slice Arh r.held.length Crh)⟩],[],[a8 w.heap.size 3 1 (.slice (some ⟨g1,0,none⟩) 33 33) (l.map ay),aX (.slice Arh r.held.length Crh) 2 (r.held.map pC)]⟩ : St)) x.1.1 x.1.2) (fun x => (fun (k : Nat) (l : List Int) => 33 - k) x.1.1 x.1.2) ⟨(0,(List.replicate 33 0)),⟨Nat.zero_le _,by simp,rfl⟩⟩ (e7 [0,1] <| kF 1 0 [1,3,4]) ?_
 rintro ⟨⟨k,l⟩,hk,hl,HK⟩
 try dsimp only
 try dsimp only at hk hl HK
 refine kS <| kQ <| aY [1,3,4,11] [(11,aB (decide ((k : Int) < 33)))] <| kC (decide ((k : Int) < 33)) (fun h2 => ?_) (fun h2 => ?_)
 have h2p := of_decide_eq_true h2
 have hlt : k < 33 := by simp at h2; omega
 obtain ⟨x0,hx0⟩ : ∃ x,l[k]? = some x := ⟨_,List.getElem?_eq_getElem (by omega)⟩
 refine kK <| kS <| ap <| kG <| fS 2 [1,3,4,14,15] [(14,.v (.slice (some ⟨g1,0,none⟩) 33 33)),(15,aI (k : Int))] (.pointer (some ⟨g1,k * 1,none⟩)) rfl (fun _ _ _ ww hr => dQ (kd := .i64) (T := 76) (e := 3) (K := 1) (g := g1) (N := 33) (cap := 33) k rfl hr.1 rfl rfl (by kernel_rfl) (by kernel_rfl) (by kernel_rfl) hlt ww) ?_
 refine xl_hs 0 [1,3,4,16] ⟨[(1,.p 0 0),(3,.v (.slice (some ⟨g1,0,none⟩) 33 33)),(4,aI (k : Int)),(16,.v (.pointer (some ⟨g1,k * 1,none⟩)))],[⟨37,aa r (.slice Arh r.held.length Crh)⟩],[],[a8 w.heap.size 3 1 (.slice (some ⟨g1,0,none⟩) 33 33) (l.map ay),aX (.slice Arh r.held.length Crh) 2 (r.held.map pC)]⟩ (by kernel_rfl) rfl (by kernel_rfl) rfl (by kernel_rfl) (HSg.hs (fA (g := g1) (B := w.heap.size) (e := 3) (K := 1) (N := 33) (cap := 33) (rs := (l.map ay)) (rs' := (l.set k (-1)).map ay) (v := (iI (-1))) (i := 0) (off := k * 1) k 0 [iI x0] (row' := [iI (-1)]) rfl rfl (by kernel_rfl) rfl (by kernel_rfl) (by kernel_rfl) (by kernel_rfl) (by kernel_rfl) (Nat.le_refl _) (by simp only [List.getElem?_map,hx0]; rfl) (by kernel_rfl) rfl (by rw [List.map_set]; rfl))) ?_
 refine aY [1,3,4] [] <| kG <| dl 3 [1,3,4] [(4,aI (K6.wrap ((k : Int) + 1)))] <| bE [1,3,4] [(4,aI (K6.wrap ((k : Int) + 1)))] [(4,aI ((k : Int) + 1))] (by rw [show (K6.wrap ((k : Int) + 1)) = ((k : Int) + 1) from ao (by omega) (by omega)]) (by kernel_rfl) ?_
 refine aY [1,3,4] [] ?_
 exact ⟨⟨(k + 1,l.set k (-1)),⟨hlt,(by rw [List.length_set]; exact hl),init_step HK (by omega)⟩⟩,kF 1 0 [1,3,4],by show (fun (k : Nat) (l : List Int) => 33 - k) (k + 1) (l.set k (-1)) < 33 - k; (dsimp only; omega)⟩
 have h2p := of_decide_eq_false h2
 have hk33 : k = 33 := by simp at h2; omega
 have hl1 : l = List.replicate 33 (-1) := by rw [hk33,← hl,List.take_length] at HK; rw [HK,hl]
 refine bY <| kS <| kQ <| aY [1,3,5] [(5,aI 0)] ?_
 refine ap <| bo (α := {x : Nat × List Int // (fun (i : Nat) (l2 : List Int) => i ≤ r.held.length ∧ l2.length = 33 ∧ fc l r.held = fc l2 (r.held.drop i)) x.1 x.2}) (fun x => (fun (i : Nat) (l2 : List Int) => (⟨[(1,.p 0 0),(3,.v (.slice (some ⟨g1,0,none⟩) 33 33)),(5,aI (i : Int))],[⟨37,aa r (.slice Arh r.held.length Crh)⟩],[],[a8 w.heap.size 3 1 (.slice (some ⟨g1,0,none⟩) 33 33) (l2.map ay),aX (.slice Arh r.held.length Crh) 2 (r.held.map pC)]⟩ : St)) x.1.1 x.1.2) (fun x => (fun (i : Nat) (l2 : List Int) => r.held.length - i) x.1.1 x.1.2) ⟨(0,l),⟨Nat.zero_le _,hl,rfl⟩⟩ (e7 [0,1] <| kF 1 0 [1,3,5]) ?_
 rintro ⟨⟨i,l2⟩,hi,hl2,H2⟩
 try dsimp only
 try dsimp only at hi hl2 H2
 refine kS <| kQ <| aY [1,3,5,21] [(21,aB (decide ((i : Int) < ((r.held.length : Nat) : Int))))] <| kC (decide ((i : Int) < ((r.held.length : Nat) : Int))) (fun h3 => ?_) (fun h3 => ?_)
 have h3p := of_decide_eq_true h3
 have hlt2 : i < r.held.length := by simpa using h3
 obtain ⟨pp,hx⟩ : ∃ p,r.held[i]? = some p := ⟨_,List.getElem?_eq_getElem hlt2⟩
 have hin := hheld pp (List.mem_of_getElem? hx)
 refine kK <| kS <| ap <| kQ <| aY [1,3,5,6] [(6,aI 0)] ?_
 refine ap <| bo (α := {x : Nat × List Int // (fun (q : Nat) (l3 : List Int) => q ≤ pp.text.size ∧ l3.length = 33 ∧ l3 = gB l2 pp.off.toNat pp.text q) x.1 x.2}) (fun x => (fun (q : Nat) (l3 : List Int) => (⟨[(1,.p 0 0),(3,.v (.slice (some ⟨g1,0,none⟩) 33 33)),(5,aI (i : Int)),(6,aI (q : Int))],[⟨37,aa r (.slice Arh r.held.length Crh)⟩],[],[a8 w.heap.size 3 1 (.slice (some ⟨g1,0,none⟩) 33 33) (l3.map ay),aX (.slice Arh r.held.length Crh) 2 (r.held.map pC)]⟩ : St)) x.1.1 x.1.2) (fun x => (fun (q : Nat) (l3 : List Int) => pp.text.size - q) x.1.1 x.1.2) ⟨(0,l2),⟨Nat.zero_le _,hl2,rfl⟩⟩ (e7 [0,1] <| kF 1 0 [1,3,5,6]) ?_
 rintro ⟨⟨q,l3⟩,hq,hl3,H3⟩
 try dsimp only
 try dsimp only at hq hl3 H3
 refine kS <| kQ <| da (kd := .i64) (T := 35) (e := 89) (K := 2) 4 [1,3,5,6,24,26,27] [(24,aI (q : Int)),(26,.v (.slice Arh r.held.length Crh)),(27,aI (i : Int))] i [iI pp.off,.string pp.text] (aX (.slice Arh r.held.length Crh) 2 (r.held.map pC)) (by kernel_rfl) rfl (by kernel_rfl) rfl rfl (by kernel_rfl) (by kernel_rfl) (by kernel_rfl) (by kernel_rfl) hlt2 (by simp) (fun w h => h) (fun b h => h) (by simp only [List.getElem?_map,hx]; rfl) ?_
 refine aY [1,3,5,6,32] [(32,aB (decide ((q : Int) < (pp.text.size : Int))))] <| kC (decide ((q : Int) < (pp.text.size : Int))) (fun h4 => ?_) (fun h4 => ?_)
 have h4p := of_decide_eq_true h4
 have hlt3 : q < pp.text.size := by simpa using h4
 have hbr := gK pp.text q
 obtain ⟨x3,hx3⟩ : ∃ x,l3[pp.off.toNat + q]? = some x := ⟨_,List.getElem?_eq_getElem (by omega)⟩
 refine kK <| kS <| ap <| gY (wkf (s' := ⟨[(1,.p 0 0),(3,.v (.slice (some ⟨g1,0,none⟩) 33 33)),(5,aI (i : Int)),(6,aI (q : Int)),(32,aB (decide ((q : Int) < (pp.text.size : Int))))],[⟨37,aa r (.slice Arh r.held.length Crh)⟩],[],[a8 w.heap.size 3 1 (.slice (some ⟨g1,0,none⟩) 33 33) (l3.map ay),aX (.slice Arh r.held.length Crh) 2 (r.held.map pC)]⟩) 1 0 [1,3,5,6,32] (by kernel_rfl)) ?_
 refine dx <| dr (K := 2) (j := i) [iI pp.off,.string pp.text] (aX (.slice Arh r.held.length Crh) 2 (r.held.map pC)) (fun _ _ h => h) (by simp) (fun w h => h) (fun b h => h) (by simp only [List.getElem?_map,hx]; rfl) (fun bq5 offq5 hAq5 => ?_)
 refine xws_know (ψ := bq5 ≠ g1) (fun _ _ _ _ hr => row_ne hr 0 1 rfl rfl rfl (by decide) hAq5 i [iI pp.off,.string pp.text] (by simp only [List.getElem?_map,hx]; rfl)) (fun hneq5g1 => ?_)
 refine dr (K := 2) (j := i) [iI pp.off,.string pp.text] (aX (.slice Arh r.held.length Crh) 2 (r.held.map pC)) (fun _ _ h => h) (by simp) (fun w h => h) (fun b h => h) (by simp only [List.getElem?_map,hx]; rfl) (fun bq6 offq6 hAq6 => ?_)
 refine xws_know (ψ := bq6 ≠ g1) (fun _ _ _ _ hr => row_ne hr 0 1 rfl rfl rfl (by decide) hAq6 i [iI pp.off,.string pp.text] (by simp only [List.getElem?_map,hx]; rfl)) (fun hneq6g1 => ?_)
 refine ca [] (by kernel_rfl) (fun ρ σ hq7 => ?_)
 refine cJ [0,1,2,3,7,9,10,11,15] [50,46,45,42,38,37,35,1,3,5,6] 11 [(50,aI (q : Int)),(46,aI (i : Int)),(45,.v (.slice Arh r.held.length Crh)),(42,aI (q : Int)),(38,aI (i : Int)),(37,.v (.slice Arh r.held.length Crh)),(35,.v (.slice (some ⟨g1,0,none⟩) 33 33)),(1,.p 0 0),(3,.v (.slice (some ⟨g1,0,none⟩) 33 33)),(5,aI (i : Int)),(6,aI (q : Int))] <| cM (kd := .i64) (T := 35) (e := 89) (K := 2) (j := i) (A := Arh) (len := r.held.length) (cap := Crh) 4 0 _ rfl (by kernel_rfl) (by kernel_rfl) (by kernel_rfl) (fun _ _ h => h) (by kernel_rfl) rfl rfl (by kernel_rfl) (by kernel_rfl) (by kernel_rfl) (by kernel_rfl) hlt2 hAq5 hq7.1.2 (by kernel_rfl) rfl ?_
 refine cJ [5,6,8] [43,50,46,45,35,1,3,5,6] 7 [(43,aI (K6.wrap (pp.off + (q : Int)))),(50,aI (q : Int)),(46,aI (i : Int)),(45,.v (.slice Arh r.held.length Crh)),(35,.v (.slice (some ⟨g1,0,none⟩) 33 33)),(1,.p 0 0),(3,.v (.slice (some ⟨g1,0,none⟩) 33 33)),(5,aI (i : Int)),(6,aI (q : Int))] <| xe_nv [43,50,46,45,35,1,3,5,6] [(43,aI (K6.wrap (pp.off + (q : Int))))] [(43,aI ((pp.off.toNat + q : Nat) : Int))] (by rw [show (K6.wrap (pp.off + (q : Int))) = ((pp.off.toNat + q : Nat) : Int) from by rw [ao (by omega) (by omega)]; omega]) (by kernel_rfl) ?_
 refine cM (kd := .i64) (T := 35) (e := 89) (K := 2) (j := i) (A := Arh) (len := r.held.length) (cap := Crh) 12 1 _ rfl (by kernel_rfl) (by kernel_rfl) (by kernel_rfl) (fun _ _ h => h) (by kernel_rfl) rfl rfl (by kernel_rfl) (by kernel_rfl) (by kernel_rfl) (by kernel_rfl) hlt2 hAq6 hq7.2 (by kernel_rfl) rfl ?_
 refine cJ [13,14] [49,43,50,35,1,3,5,6] 4 [(49,.v (.string pp.text)),(43,aI ((pp.off.toNat + q : Nat) : Int)),(50,aI (q : Int)),(35,.v (.slice (some ⟨g1,0,none⟩) 33 33)),(1,.p 0 0),(3,.v (.slice (some ⟨g1,0,none⟩) 33 33)),(5,aI (i : Int)),(6,aI (q : Int))] <| kX 16 (.int .u8 (bF pp.text q)) rfl (fun _ _ ww hA => act_tix (kd := .i64) (t := pp.text) q hA rfl rfl (by kernel_rfl) (by kernel_rfl) hlt3 ww) ?_
 refine cJ [17] [52,43,35,1,3,5,6] 2 [(52,aI (K6.wrap (bF pp.text q))),(43,aI ((pp.off.toNat + q : Nat) : Int)),(35,.v (.slice (some ⟨g1,0,none⟩) 33 33)),(1,.p 0 0),(3,.v (.slice (some ⟨g1,0,none⟩) 33 33)),(5,aI (i : Int)),(6,aI (q : Int))] <| xe_nv [52,43,35,1,3,5,6] [(52,aI (K6.wrap (bF pp.text q)))] [(52,aI (bF pp.text q))] (by rw [show (K6.wrap (bF pp.text q)) = (bF pp.text q) from ao (by omega) (by omega)]) (by kernel_rfl) ?_
 refine kX 18 (.pointer (some ⟨g1,(pp.off.toNat + q) * 1,none⟩)) rfl (fun _ _ ww hA => dQ (kd := .i64) (T := 76) (e := 3) (K := 1) (g := g1) (N := 33) (cap := 33) (pp.off.toNat + q) rfl hA rfl rfl (by kernel_rfl) (by kernel_rfl) (by kernel_rfl) (by omega) ww) ?_
 refine kA [19] <| xs_hsG 19 g1 rfl (by kernel_rfl) (by kernel_rfl) (by kernel_rfl) (a6 a9) (fun kk rr hk => match kk,hk with | 0,_ => .inr (fun h => hneq5g1 ((congrArg Prod.fst hq7.1.2).symm.trans h)) | 1,_ => .inr (fun h => hneq6g1 ((congrArg Prod.fst hq7.2).symm.trans h)) | nn + 2,hk => (by simp [addRow] at hk)) (fA (g := g1) (B := w.heap.size) (e := 3) (K := 1) (N := 33) (cap := 33) (rs := (l3.map ay)) (rs' := (l3.set (pp.off.toNat + q) (bF pp.text q)).map ay) (v := (iI (bF pp.text q))) (i := 0) (off := (pp.off.toNat + q) * 1) (pp.off.toNat + q) 0 [iI x3] (row' := [iI (bF pp.text q)]) rfl rfl (by kernel_rfl) rfl (by kernel_rfl) (by kernel_rfl) (by kernel_rfl) (by kernel_rfl) (Nat.le_refl _) (by simp only [List.getElem?_map,hx3]; rfl) (by kernel_rfl) rfl (by rw [List.map_set]; rfl)) ?_
 refine kZ <| kG <| dl 3 [1,3,5,6] [(6,aI (K6.wrap ((q : Int) + 1)))] <| bE [1,3,5,6] [(6,aI (K6.wrap ((q : Int) + 1)))] [(6,aI ((q : Int) + 1))] (by rw [show (K6.wrap ((q : Int) + 1)) = ((q : Int) + 1) from ao (by omega) (by omega)]) (by kernel_rfl) ?_
 refine aY [1,3,5,6] [] ?_
 exact ⟨⟨(q + 1,(l3.set (pp.off.toNat + q) (bF pp.text q))),⟨hlt3,(by rw [List.length_set]; exact hl3),(by rw [H3]; rfl)⟩⟩,kF 1 0 [1,3,5,6],by show (fun (q : Nat) (l3 : List Int) => pp.text.size - q) (q + 1) (l3.set (pp.off.toNat + q) (bF pp.text q)) < pp.text.size - q; (dsimp only; omega)⟩
 have h4p := of_decide_eq_false h4
 have hq3 : q = pp.text.size := by simp at h4; omega
 refine bY <| kG <| dl 3 [1,3,5] [(5,aI (K6.wrap ((i : Int) + 1)))] <| bE [1,3,5] [(5,aI (K6.wrap ((i : Int) + 1)))] [(5,aI ((i : Int) + 1))] (by rw [show (K6.wrap ((i : Int) + 1)) = ((i : Int) + 1) from ao (by omega) (by omega)]) (by kernel_rfl) ?_
 refine aE [1,3,5] [(1,.p 0 0),(3,.v (.slice (some ⟨g1,0,none⟩) 33 33)),(5,aI ((i : Int) + 1))] ?_
 exact ⟨⟨(i + 1,l3),⟨hlt2,hl3,(by rw [H2,drop_cons_of hx,fc,← hq3,← H3])⟩⟩,kF 1 0 [1,3,5],by show (fun (i : Nat) (l2 : List Int) => r.held.length - i) (i + 1) l3 < r.held.length - i; (dsimp only; omega)⟩
 have h3p := of_decide_eq_false h3
 have hi2 : i = r.held.length := by simp at h3; omega
 rw [hi2,List.drop_length] at H2; simp only [fc] at H2
 refine bY <| kQ <| aE [2] [(2,.v (.slice (some ⟨g1,0,none⟩) 33 33))] <| kR ?_
 have hmod : aZ r = l2 := by (unfold aZ; rw [← hl1]; exact H2)
 exact ⟨[.slice (some ⟨g1,0,none⟩) 33 33],by kernel_rfl,fun w' hb hf ha => by rw [hmod,hl2]; exact xo1 ((((some ⟨g1,0,none⟩) : Option Addr),33)) rfl rfl (pW (hf _ m0) hB) hb⟩
end Go.Proofs.YtccijpdjfelbmaaGreat
