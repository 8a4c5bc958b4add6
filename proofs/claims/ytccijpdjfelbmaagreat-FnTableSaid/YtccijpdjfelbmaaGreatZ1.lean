/- Contracts that this law needs, part 1. -/
import Derived.Test.YtccijpdjfelbmaaGreatYW
import Derived.Test.YtccijpdjfelbmaaGreatA5
import Derived.Test.YtccijpdjfelbmaaGreatG1
import Derived.Test.YtccijpdjfelbmaaGreatYD
import Derived.Test.YtccijpdjfelbmaaGreatG3
import Derived.Test.YtccijpdjfelbmaaGreatA2
import Derived.Test.YtccijpdjfelbmaaGreatG2
namespace Go.Proofs.YtccijpdjfelbmaaGreat
open Go.RowKit
set_option linter.unusedVariables false
set_option linter.unusedSimpArgs false
set_option maxRecDepth 100000
set_option maxHeartbeats 2000000
abbrev aI (x : Int) : AV := .v (.int .i64 x)
abbrev aB (x : Bool) : AV := .v (.bool x)
abbrev aP (x : Nat) : AV := .v (.pointer (some ⟨x, 0, none⟩))
abbrev gP (x : Nat) : Value := .pointer (some ⟨x, 0, none⟩)
abbrev iI (x : Int) : Value := .int .i64 x
abbrev cF (B g : Nat) (A : Option Addr) (c : List Int) (cap : Nat) : Fact := eH B g 70 (.slice A c.length cap) c.length
abbrev cS (a : Option Addr) (c : Con) (n : Nat) : Value := .slice a c.r.held.length n
abbrev cH (a : Option Addr) (c : Con) (n : Nat) : Fact := aJ (cS a c n) 2 (c.r.held.map pC)
abbrev sJ (a : Option Addr) (c : List Int) (n : Nat) : Value := .slice a c.length n
abbrev sQ (a : Option Addr) (c : List Int) (n : Nat) : Fact := aJ (sJ a c n) 1 (c.map bR)
abbrev K6 : IntKind := .i64


theorem ysMssFor_c (c : Con) (rV : Value) (w : World)  : Calls Tryz.prog 119 #[.agg (a6 c rV).toArray] w fun e w' => e = .returned (iI (gM c)) ∧ Below w.heap.size w w' := by
 refine bZ (args := [.agg (a6 c rV).toArray]) (fn := Tryz.f119) [] Tryz.func119 rfl Tryz.ntmps119 rfl (by simp) ?_
 refine kQ <| cm [1] ⟨[(1,.p 0 0)],[⟨41,a6 c rV⟩],[],[]⟩ <| kS <| kQ <| aT [1,6] [(1,.p 0 0),(6,aB (c.o.mss == 0))] ?_
 refine kC (c.o.mss == 0) (fun h1 => ?_) (fun h1 => ?_)
 have h1p := cI h1
 refine kQ <| aT [2] [(2,aI 536)] <| kR ?_
 exact ⟨[iI 536],by kernel_rfl,fun w' hb hf => ⟨fP (show (536 : Int) = gM c from by first | rfl | (simp [gM, *]; done) | (simp [gM, *]; omega) | grind [bt,gM]),hb⟩⟩
 have h1p := cB h1
 refine kK <| kQ <| dN 3 [9] [(9,aI c.o.mss)] 118 [iI 1460,iI c.o.mss] (some 10) rfl (c6 fun ww hf => fT 1460 c.o.mss ww ) ?_
 intro _
 refine dN 0 [10] [(10,aI (min 1460 c.o.mss))] 95 [iI 1,iI (min 1460 c.o.mss)] (some 11) rfl (c6 fun ww hf => e7 1 (min 1460 c.o.mss) ww ) ?_
 intro _
 refine aT [2] [(2,aI (max 1 (min 1460 c.o.mss)))] <| kR ?_
 exact ⟨[iI (max 1 (min 1460 c.o.mss))],by kernel_rfl,fun w' hb hf => ⟨fP (show (max 1 (min 1460 c.o.mss) : Int) = gM c from by first | rfl | (simp [gM, *]; done) | (simp [gM, *]; omega) | grind [bt,gM]),hb⟩⟩
theorem ysUnsent_c (c : Con) (rV : Value) (w : World)  : Calls Tryz.prog 120 #[.agg (a6 c rV).toArray] w fun e w' => e = .returned (.bool (gb c)) ∧ Below w.heap.size w w' := by
 refine bZ (args := [.agg (a6 c rV).toArray]) (fn := Tryz.f120) [] Tryz.func120 rfl Tryz.ntmps120 rfl (by simp) ?_
 refine kQ <| cm [1] ⟨[(1,.p 0 0)],[⟨41,a6 c rV⟩],[],[]⟩ <| kS <| ba ⟨[(2,aB ((!(c.s.data.toList == (⟨#[]⟩ : ByteArray).toList)) || (c.s.fin && (!c.s.done))))],[⟨41,a6 c rV⟩],[],[]⟩ ?_ ?_
 refine kG <| dt 5 [1,7] [(1,.p 0 0),(7,aB (!(c.s.data.toList == (⟨#[]⟩ : ByteArray).toList)))] <| kP 7 (!(c.s.data.toList == (⟨#[]⟩ : ByteArray).toList)) (fun h1 => ?_) (fun h1 => ?_)
 have h1n := bS h1
 have h1np := h1n; simp only [beq_iff_eq,bne_iff_ne,beq_eq_false_iff_ne,bne_eq_false_iff_eq,ne_eq,bt] at h1np
 refine aT [2] [(2,aB true)] ?_
 show Wk _ _
 try rw [h1]
 exact kF 1 0 [2]
 have h1n := aF h1
 have h1np := h1n; simp only [beq_iff_eq,bne_iff_ne,beq_eq_false_iff_ne,bne_eq_false_iff_eq,ne_eq,bt] at h1np
 refine dt 4 [1,7,11] [(1,.p 0 0),(7,aB false),(11,aB c.s.fin)] <| kP 11 (c.s.fin) (fun h2 => ?_) (fun h2 => ?_)
 refine aT [2] [(2,aB (!c.s.done))] ?_
 show Wk _ _
 try rw [h1]
 try rw [h2]
 exact kF 1 0 [2]
 refine aT [2] [(2,aB false)] ?_
 show Wk _ _
 try rw [h1]
 try rw [h2]
 exact kF 1 0 [2]
 refine kR ?_
 exact ⟨[.bool ((!(c.s.data.toList == (⟨#[]⟩ : ByteArray).toList)) || (c.s.fin && (!c.s.done)))],by kernel_rfl,fun w' hb hf => ⟨au (show ((!(c.s.data.toList == (⟨#[]⟩ : ByteArray).toList)) || (c.s.fin && (!c.s.done)) : Bool) = gb c from by first | rfl | (simp [gb, *]; done) | (simp [gb, *]; omega) | grind [bt,gb]),hb⟩⟩
theorem gy (r : Rcv) (r_heldV : Value) (w : World) (hl_r_heldV : Sl w r_heldV 2 (r.held.map pC)) (hm : ∀ p ∈ r.held, p.text.size ≤ 1048576) (hsz : r.data.size ≤ 4611686018427387904) : Calls Tryz.prog 66 #[.agg (ag r r_heldV).toArray] w fun e w' => e = .returned (.bool (rO r)) ∧ Below w.heap.size w w' := by
 have hw := ff r
 obtain ⟨Arh,Crh,hvrh⟩ := hl_r_heldV.form
 rw [List.length_map] at hvrh; subst hvrh
 have hnrh := hl_r_heldV.len; rw [List.length_map] at hnrh
 have hqrh := Sl.capLe hl_r_heldV
 refine bZ (args := [.agg (ag r (.slice Arh r.held.length Crh)).toArray]) (fn := Tryz.f66) [aJ (.slice Arh r.held.length Crh) 2 (r.held.map pC)] Tryz.func66 rfl Tryz.ntmps66 rfl (by simp only [List.mem_cons,List.not_mem_nil,or_false,forall_eq_or_imp,forall_eq]; exact ⟨rfl,hl_r_heldV⟩) ?_
 refine kQ <| cm [1] ⟨[(1,.p 0 0)],[⟨37,ag r (.slice Arh r.held.length Crh)⟩],[],[aJ (.slice Arh r.held.length Crh) 2 (r.held.map pC)]⟩ <| kQ <| dR 1 [1,7] [(7,.v (.agg (ag r (.slice Arh r.held.length Crh)).toArray))] 92 [.agg (ag r (.slice Arh r.held.length Crh)).toArray] (some 8) rfl (aA fun ww hf => eX r.next r.data r.held (.slice Arh r.held.length Crh) r.fin r.done ww (by omega)) ?_
 intro _
 refine aW [1,3] [(3,aI (wO r))] <| kS <| kQ <| dR 2 [1,3,10] [(10,aI r.next)] 91 [iI r.next,iI 32] (some 11) rfl (c6 fun ww hf => eF r.next ww) ?_
 intro _
 refine di 2 [1,3,13] [(13,aB (!(aU r.next 32)))] <| kP 13 (!(aU r.next 32)) (fun h1 => ?_) (fun h1 => ?_)
 have h1n := bS h1
 refine aW [1,3,36] [(36,aB true)] <| kT <| kQ <| aT [2] [(2,aB false)] ?_
 refine kR ?_
 exact ⟨[.bool false],by kernel_rfl,fun w' hb hf => ⟨au (show (false : Bool) = rO r from by first | rfl | (rw [HR,HK]; simp [*]; done) | (rw [HR,HK]; simp [*]; omega) | (rw [HR,HK]; grind [bI]) | (simp [rO,ak, *]; done) | (simp [rO,ak, *]; omega) | grind [rO,ak]),hb⟩⟩
 have h1n := aF h1
 refine di 6 [1,3,19] [(19,aB (decide ((r.data.size : Int) > 32)))] <| kP 19 (decide ((r.data.size : Int) > 32)) (fun h2 => ?_) (fun h2 => ?_)
 have h2p := of_decide_eq_true h2
 refine aW [1,3,36] [(36,aB true)] <| kT <| kQ <| aT [2] [(2,aB false)] ?_
 refine kR ?_
 exact ⟨[.bool false],by kernel_rfl,fun w' hb hf => ⟨au (show (false : Bool) = rO r from by first | rfl | (rw [HR,HK]; simp [*]; done) | (rw [HR,HK]; simp [*]; omega) | (rw [HR,HK]; grind [bI]) | (simp [rO,ak, *]; done) | (simp [rO,ak, *]; omega) | grind [rO,ak]),hb⟩⟩
 have h2p := of_decide_eq_false h2
 refine di 6 [1,3,25] [(25,aB (decide (((r.held.length : Nat) : Int) > 3)))] <| kP 25 (decide (((r.held.length : Nat) : Int) > 3)) (fun h3 => ?_) (fun h3 => ?_)
 have h3p := of_decide_eq_true h3
 refine aW [1,3,36] [(36,aB true)] <| kT <| kQ <| aT [2] [(2,aB false)] ?_
 refine kR ?_
 exact ⟨[.bool false],by kernel_rfl,fun w' hb hf => ⟨au (show (false : Bool) = rO r from by first | rfl | (rw [HR,HK]; simp [*]; done) | (rw [HR,HK]; simp [*]; omega) | (rw [HR,HK]; grind [bI]) | (simp [rO,ak, *]; done) | (simp [rO,ak, *]; omega) | grind [rO,ak]),hb⟩⟩
 have h3p := of_decide_eq_false h3
 refine dR 3 [1,3,25,27,28] [(25,aB false),(27,aI r.fin),(28,aI (wO r))] 63 [iI r.fin,iI (-1),iI (wO r)] (some 29) rfl (c6 fun ww hf => e9 r.fin (-1) (wO r) ww ) ?_
 intro _
 refine di 3 [1,3,32] [(32,aB (!(bA r.fin (-1) (wO r))))] <| kP 32 (!(bA r.fin (-1) (wO r))) (fun h4 => ?_) (fun h4 => ?_)
 have h4n := bS h4
 refine aW [1,3,36] [(36,aB true)] <| kT <| kQ <| aT [2] [(2,aB false)] ?_
 refine kR ?_
 exact ⟨[.bool false],by kernel_rfl,fun w' hb hf => ⟨au (show (false : Bool) = rO r from by first | rfl | (rw [HR,HK]; simp [*]; done) | (rw [HR,HK]; simp [*]; omega) | (rw [HR,HK]; grind [bI]) | (simp [rO,ak, *]; done) | (simp [rO,ak, *]; omega) | grind [rO,ak]),hb⟩⟩
 have h4n := aF h4
 refine aW [1,3,36] [(36,aB (r.fin == 0))] <| kC (r.fin == 0) (fun h5 => ?_) (fun h5 => ?_)
 have h5p := cI h5
 refine kQ <| aT [2] [(2,aB false)] <| kR ?_
 exact ⟨[.bool false],by kernel_rfl,fun w' hb hf => ⟨au (show (false : Bool) = rO r from by first | rfl | (rw [HR,HK]; simp [*]; done) | (rw [HR,HK]; simp [*]; omega) | (rw [HR,HK]; grind [bI]) | (simp [rO,ak, *]; done) | (simp [rO,ak, *]; omega) | grind [rO,ak]),hb⟩⟩
 have h5p := cB h5
 refine kK <| kQ <| aW [1,3,4] [(4,aI 0)] <| kS <| kQ <| aT [1,3,4,5] [(1,.p 0 0),(3,aI (wO r)),(4,aI 0),(5,aI 0)] ?_
 refine ao ?_
 have hp : ak r = true := by first | (simp [ak, *]; done) | (simp [ak, *]; omega) | grind [ak]
 have hin := inB_tt.1 (rcvPre_iff.1 hp).2.2.2.1
 have HR := receiverOkS r hp
 refine bc (α := {x : Nat × Int // (fun (k : Nat) (z : Int) => k ≤ r.held.length ∧ 0 ≤ z ∧ z ≤ 32 ∧ dh (wO r) r.fin 0 r.held = dh (wO r) r.fin z (r.held.drop k)) x.1 x.2}) (fun x => (fun (k : Nat) (z : Int) => (⟨[(1,.p 0 0),(3,aI (wO r)),(4,aI z),(5,aI (k : Int))],[⟨37,ag r (.slice Arh r.held.length Crh)⟩],[],[aJ (.slice Arh r.held.length Crh) 2 (r.held.map pC)]⟩ : St)) x.1.1 x.1.2) (fun x => r.held.length - x.1.1) ⟨(0,0),⟨Nat.zero_le _,by omega,by omega,rfl⟩⟩ (kF 1 0 [1,3,4,5]) ?_
 rintro ⟨⟨k,z⟩,hk,hz0,hz1,HK⟩
 try dsimp only
 try dsimp only at hk hz0 hz1 HK
 refine kS <| kQ <| aW [1,3,4,5,41] [(41,aB (decide ((k : Int) < ((r.held.length : Nat) : Int))))] <| kC (decide ((k : Int) < ((r.held.length : Nat) : Int))) (fun h6 => ?_) (fun h6 => ?_)
 have h6p := of_decide_eq_true h6
 have hlt : k < r.held.length := by simpa using h6
 obtain ⟨x,hx⟩ : ∃ x,r.held[k]? = some x := ⟨_,List.getElem?_eq_getElem hlt⟩
 have hxm := hm x (List.mem_of_getElem? hx)
 rw [fR hx] at HK; simp only [dh,dP] at HK
 refine kK <| kS <| ao <| kQ <| de (kd := .i64) (T := 35) (e := 89) (K := 2) 3 [1,3,4,5,45,46] [(45,.v (.slice Arh r.held.length Crh)),(46,aI (k : Int))] k [iI x.off,.string x.text] (aJ (.slice Arh r.held.length Crh) 2 (r.held.map pC)) (by kernel_rfl) rfl (by kernel_rfl) rfl rfl (by kernel_rfl) (by kernel_rfl) (by kernel_rfl) (by kernel_rfl) hlt (by simp) (fun w h => h) (fun b h => h) (by simp only [List.getElem?_map,hx]; rfl) ?_
 refine gk [1,3,4,5,6] [(6,.p 1 0)] [⟨89,pceL x⟩] <| kS <| kQ <| di 4 [1,3,4,5,6,52] [(52,aB (x.text.toList == (⟨#[]⟩ : ByteArray).toList))] ?_
 refine kP 52 (x.text.toList == (⟨#[]⟩ : ByteArray).toList) (fun h7 => ?_) (fun h7 => ?_)
 have h7p := h7; simp only [beq_iff_eq,bne_iff_ne,beq_eq_false_iff_ne,bne_eq_false_iff_eq,ne_eq,bt] at h7p
 refine aW [1,3,5,6,73] [(73,aB true)] <| kT <| kQ <| aT [2] [(2,aB false)] ?_
 refine kR ?_
 exact ⟨[.bool false],by kernel_rfl,fun w' hb hf => ⟨au (show (false : Bool) = rO r from by first | rfl | (rw [HR,HK]; simp [*]; done) | (rw [HR,HK]; simp [*]; omega) | (rw [HR,HK]; grind [bI]) | (simp [rO,ak, *]; done) | (simp [rO,ak, *]; omega) | grind [rO,ak]),hb⟩⟩
 have h7p := h7; simp only [beq_iff_eq,bne_iff_ne,beq_eq_false_iff_ne,bne_eq_false_iff_eq,ne_eq,bt] at h7p
 refine di 6 [1,3,5,6,58] [(58,aB (decide (x.off ≤ z)))] <| kP 58 (decide (x.off ≤ z)) (fun h8 => ?_) (fun h8 => ?_)
 have h8p := of_decide_eq_true h8
 refine aW [1,3,5,6,73] [(73,aB true)] <| kT <| kQ <| aT [2] [(2,aB false)] ?_
 refine kR ?_
 exact ⟨[.bool false],by kernel_rfl,fun w' hb hf => ⟨au (show (false : Bool) = rO r from by first | rfl | (rw [HR,HK]; simp [*]; done) | (rw [HR,HK]; simp [*]; omega) | (rw [HR,HK]; grind [bI]) | (simp [rO,ak, *]; done) | (simp [rO,ak, *]; omega) | grind [rO,ak]),hb⟩⟩
 have h8p := of_decide_eq_false h8
 refine di 6 [1,3,5,6,64] [(64,aB (decide (x.off > (wO r))))] <| kP 64 (decide (x.off > (wO r))) (fun h9 => ?_) (fun h9 => ?_)
 have h9p := of_decide_eq_true h9
 refine aW [1,3,5,6,73] [(73,aB true)] <| kT <| kQ <| aT [2] [(2,aB false)] ?_
 refine kR ?_
 exact ⟨[.bool false],by kernel_rfl,fun w' hb hf => ⟨au (show (false : Bool) = rO r from by first | rfl | (rw [HR,HK]; simp [*]; done) | (rw [HR,HK]; simp [*]; omega) | (rw [HR,HK]; grind [bI]) | (simp [rO,ak, *]; done) | (simp [rO,ak, *]; omega) | grind [rO,ak]),hb⟩⟩
 have h9p := of_decide_eq_false h9
 refine di 9 [1,3,5,6,73] [(73,aB (decide ((K6.wrap (x.off + (x.text.size : Int))) > (wO r))))] <| cU [1,3,5,6,73] [(73,aB (decide ((K6.wrap (x.off + (x.text.size : Int))) > (wO r))))] [(73,aB (decide ((x.off + (x.text.size : Int)) > (wO r))))] (by rw [show (K6.wrap (x.off + (x.text.size : Int))) = (x.off + (x.text.size : Int)) from al (by omega) (by omega)]) (by kernel_rfl) ?_
 refine aW [1,3,5,6,73] [] <| kC (decide ((x.off + (x.text.size : Int)) > (wO r))) (fun h10 => ?_) (fun h10 => ?_)
 have h10p := of_decide_eq_true h10
 refine kQ <| aT [2] [(2,aB false)] <| kR ?_
 exact ⟨[.bool false],by kernel_rfl,fun w' hb hf => ⟨au (show (false : Bool) = rO r from by first | rfl | (rw [HR,HK]; simp [*]; done) | (rw [HR,HK]; simp [*]; omega) | (rw [HR,HK]; grind [bI]) | (simp [rO,ak, *]; done) | (simp [rO,ak, *]; omega) | grind [rO,ak]),hb⟩⟩
 have h10p := of_decide_eq_false h10
 refine kK <| kG <| dt 7 [1,3,4,5] [(1,.p 0 0),(3,aI (wO r)),(4,aI (K6.wrap (x.off + (x.text.size : Int)))),(5,aI (k : Int))] <| fU (t' := [(1,.p 0 0),(3,aI (wO r)),(4,aI (x.off + (x.text.size : Int))),(5,aI (k : Int))]) (by rw [show (K6.wrap (x.off + (x.text.size : Int))) = (x.off + (x.text.size : Int)) from al (by omega) (by omega)]) ?_
 refine aW [1,3,4,5] [] <| kG <| di 3 [1,3,4,5] [(5,aI (K6.wrap ((k : Int) + 1)))] <| cU [1,3,4,5] [(5,aI (K6.wrap ((k : Int) + 1)))] [(5,aI ((k : Int) + 1))] (by rw [show (K6.wrap ((k : Int) + 1)) = ((k : Int) + 1) from al (by omega) (by omega)]) (by kernel_rfl) ?_
 refine aW [1,3,4,5] [] ?_
 exact ⟨⟨(k + 1,x.off + (x.text.size : Int)),⟨by omega,by omega,by omega,by rw [HK]; first | (simp [*]; done) | (simp [*]; omega) | grind⟩⟩,kF 1 0 [1,3,4,5],by show r.held.length - (k + 1) < r.held.length - k; omega⟩
 have h6p := of_decide_eq_false h6
 have hge : k = r.held.length := by simp at h6; omega
 subst hge; simp only [List.drop_length,dh,dP] at HK
 refine bH <| kQ <| di 4 [1,4,83] [(83,aB (decide (r.fin < 0)))] <| kP 83 (decide (r.fin < 0)) (fun h11 => ?_) (fun h11 => ?_)
 have h11p := of_decide_eq_true h11
 refine di 10 [1,89,93] [(89,aB true),(93,aB (!r.done))] <| kP 93 (!r.done) (fun h12 => ?_) (fun h12 => ?_)
 have h12n := bS h12
 refine aT [2] [(2,aB true)] <| kR ?_
 exact ⟨[.bool true],by kernel_rfl,fun w' hb hf => ⟨au (show (true : Bool) = rO r from by first | rfl | (rw [HR,HK]; simp [*]; done) | (rw [HR,HK]; simp [*]; omega) | (rw [HR,HK]; grind [bI]) | (simp [rO,ak, *]; done) | (simp [rO,ak, *]; omega) | grind [rO,ak]),hb⟩⟩
 have h12n := aF h12
 refine di 5 [1,89,93,98] [(93,aB false),(98,aB (((r.held.length : Nat) : Int) == 0))] <| kP 98 (((r.held.length : Nat) : Int) == 0) (fun h13 => ?_) (fun h13 => ?_)
 have h13p := cI h13
 refine aT [2] [(2,aB (r.fin == (-1)))] <| kR ?_
 exact ⟨[.bool (r.fin == (-1))],by kernel_rfl,fun w' hb hf => ⟨au (show (r.fin == (-1) : Bool) = rO r from by first | rfl | (rw [HR,HK]; simp [*]; done) | (rw [HR,HK]; simp [*]; omega) | (rw [HR,HK]; grind [bI]) | (simp [rO,ak, *]; done) | (simp [rO,ak, *]; omega) | grind [rO,ak]),hb⟩⟩
 have h13p := cB h13
 refine aT [2] [(2,aB false)] <| kR ?_
 exact ⟨[.bool false],by kernel_rfl,fun w' hb hf => ⟨au (show (false : Bool) = rO r from by first | rfl | (rw [HR,HK]; simp [*]; done) | (rw [HR,HK]; simp [*]; omega) | (rw [HR,HK]; grind [bI]) | (simp [rO,ak, *]; done) | (simp [rO,ak, *]; omega) | grind [rO,ak]),hb⟩⟩
 have h11p := of_decide_eq_false h11
 refine di 6 [1,89] [(89,aB (decide (z ≤ r.fin)))] <| kP 89 (decide (z ≤ r.fin)) (fun h14 => ?_) (fun h14 => ?_)
 have h14p := of_decide_eq_true h14
 refine di 4 [1,89,93] [(89,aB true),(93,aB (!r.done))] <| kP 93 (!r.done) (fun h15 => ?_) (fun h15 => ?_)
 have h15n := bS h15
 refine aT [2] [(2,aB true)] <| kR ?_
 exact ⟨[.bool true],by kernel_rfl,fun w' hb hf => ⟨au (show (true : Bool) = rO r from by first | rfl | (rw [HR,HK]; simp [*]; done) | (rw [HR,HK]; simp [*]; omega) | (rw [HR,HK]; grind [bI]) | (simp [rO,ak, *]; done) | (simp [rO,ak, *]; omega) | grind [rO,ak]),hb⟩⟩
 have h15n := aF h15
 refine di 5 [1,89,93,98] [(93,aB false),(98,aB (((r.held.length : Nat) : Int) == 0))] <| kP 98 (((r.held.length : Nat) : Int) == 0) (fun h16 => ?_) (fun h16 => ?_)
 have h16p := cI h16
 refine aT [2] [(2,aB (r.fin == (-1)))] <| kR ?_
 exact ⟨[.bool (r.fin == (-1))],by kernel_rfl,fun w' hb hf => ⟨au (show (r.fin == (-1) : Bool) = rO r from by first | rfl | (rw [HR,HK]; simp [*]; done) | (rw [HR,HK]; simp [*]; omega) | (rw [HR,HK]; grind [bI]) | (simp [rO,ak, *]; done) | (simp [rO,ak, *]; omega) | grind [rO,ak]),hb⟩⟩
 have h16p := cB h16
 refine aT [2] [(2,aB false)] <| kR ?_
 exact ⟨[.bool false],by kernel_rfl,fun w' hb hf => ⟨au (show (false : Bool) = rO r from by first | rfl | (rw [HR,HK]; simp [*]; done) | (rw [HR,HK]; simp [*]; omega) | (rw [HR,HK]; grind [bI]) | (simp [rO,ak, *]; done) | (simp [rO,ak, *]; omega) | grind [rO,ak]),hb⟩⟩
 have h14p := of_decide_eq_false h14
 refine aT [2] [(2,aB false)] <| kR ?_
 exact ⟨[.bool false],by kernel_rfl,fun w' hb hf => ⟨au (show (false : Bool) = rO r from by first | rfl | (rw [HR,HK]; simp [*]; done) | (rw [HR,HK]; simp [*]; omega) | (rw [HR,HK]; grind [bI]) | (simp [rO,ak, *]; done) | (simp [rO,ak, *]; omega) | grind [rO,ak]),hb⟩⟩
theorem yiReceiverOk_c (r : Rcv) (r_heldV : Value) (w : World) (hl_r_heldV : Sl w r_heldV 2 (r.held.map pC)) (hm : ∀ p ∈ r.held, p.text.size ≤ 1048576) (hsz : r.data.size ≤ 4611686018427387904) : Calls Tryz.prog 61 #[.agg (ag r r_heldV).toArray] w fun e w' => e = .returned (.bool (rO r)) ∧ Below w.heap.size w w' := by
 have hw := ff r
 obtain ⟨Arh,Crh,hvrh⟩ := hl_r_heldV.form
 rw [List.length_map] at hvrh; subst hvrh
 have hnrh := hl_r_heldV.len; rw [List.length_map] at hnrh
 have hqrh := Sl.capLe hl_r_heldV
 refine bZ (args := [.agg (ag r (.slice Arh r.held.length Crh)).toArray]) (fn := Tryz.f61) [aJ (.slice Arh r.held.length Crh) 2 (r.held.map pC)] Tryz.func61 rfl Tryz.ntmps61 rfl (by simp only [List.mem_cons,List.not_mem_nil,or_false,forall_eq_or_imp,forall_eq]; exact ⟨rfl,hl_r_heldV⟩) ?_
 refine kQ <| cm [1] ⟨[(1,.p 0 0)],[⟨37,ag r (.slice Arh r.held.length Crh)⟩],[],[aJ (.slice Arh r.held.length Crh) 2 (r.held.map pC)]⟩ <| kQ <| dR 1 [1,8] [(8,.v (.agg (ag r (.slice Arh r.held.length Crh)).toArray))] 90 [.agg (ag r (.slice Arh r.held.length Crh)).toArray] (some 9) rfl (aA fun ww hf => iWindowOf_c r.next r.data r.held (.slice Arh r.held.length Crh) r.fin r.done ww (by omega)) ?_
 intro _
 refine aW [1,3] [(3,aI (wO r))] <| kS <| kQ <| dR 2 [1,3,11] [(11,aI r.next)] 89 [iI r.next,iI 32] (some 12) rfl (c6 fun ww hf => ge r.next ww) ?_
 intro _
 refine di 2 [1,3,14] [(14,aB (!(aU r.next 32)))] <| kP 14 (!(aU r.next 32)) (fun h1 => ?_) (fun h1 => ?_)
 have h1n := bS h1
 refine aW [1,3,37] [(37,aB true)] <| kT <| kQ <| aT [2] [(2,aB false)] ?_
 refine kR ?_
 exact ⟨[.bool false],by kernel_rfl,fun w' hb hf => ⟨au (show (false : Bool) = rO r from by first | rfl | (rw [HR,HK]; simp [*]; done) | (rw [HR,HK]; simp [*]; omega) | (rw [HR,HK]; grind [bI]) | (simp [rO,ak, *]; done) | (simp [rO,ak, *]; omega) | grind [rO,ak]),hb⟩⟩
 have h1n := aF h1
 refine di 6 [1,3,20] [(20,aB (decide ((r.data.size : Int) > 32)))] <| kP 20 (decide ((r.data.size : Int) > 32)) (fun h2 => ?_) (fun h2 => ?_)
 have h2p := of_decide_eq_true h2
 refine aW [1,3,37] [(37,aB true)] <| kT <| kQ <| aT [2] [(2,aB false)] ?_
 refine kR ?_
 exact ⟨[.bool false],by kernel_rfl,fun w' hb hf => ⟨au (show (false : Bool) = rO r from by first | rfl | (rw [HR,HK]; simp [*]; done) | (rw [HR,HK]; simp [*]; omega) | (rw [HR,HK]; grind [bI]) | (simp [rO,ak, *]; done) | (simp [rO,ak, *]; omega) | grind [rO,ak]),hb⟩⟩
 have h2p := of_decide_eq_false h2
 refine di 6 [1,3,26] [(26,aB (decide (((r.held.length : Nat) : Int) > 3)))] <| kP 26 (decide (((r.held.length : Nat) : Int) > 3)) (fun h3 => ?_) (fun h3 => ?_)
 have h3p := of_decide_eq_true h3
 refine aW [1,3,37] [(37,aB true)] <| kT <| kQ <| aT [2] [(2,aB false)] ?_
 refine kR ?_
 exact ⟨[.bool false],by kernel_rfl,fun w' hb hf => ⟨au (show (false : Bool) = rO r from by first | rfl | (rw [HR,HK]; simp [*]; done) | (rw [HR,HK]; simp [*]; omega) | (rw [HR,HK]; grind [bI]) | (simp [rO,ak, *]; done) | (simp [rO,ak, *]; omega) | grind [rO,ak]),hb⟩⟩
 have h3p := of_decide_eq_false h3
 refine dR 3 [1,3,26,28,29] [(26,aB false),(28,aI r.fin),(29,aI (wO r))] 58 [iI r.fin,iI (-1),iI (wO r)] (some 30) rfl (c6 fun ww hf => dc r.fin (-1) (wO r) ww ) ?_
 intro _
 refine di 3 [1,3,33] [(33,aB (!(bA r.fin (-1) (wO r))))] <| kP 33 (!(bA r.fin (-1) (wO r))) (fun h4 => ?_) (fun h4 => ?_)
 have h4n := bS h4
 refine aW [1,3,37] [(37,aB true)] <| kT <| kQ <| aT [2] [(2,aB false)] ?_
 refine kR ?_
 exact ⟨[.bool false],by kernel_rfl,fun w' hb hf => ⟨au (show (false : Bool) = rO r from by first | rfl | (rw [HR,HK]; simp [*]; done) | (rw [HR,HK]; simp [*]; omega) | (rw [HR,HK]; grind [bI]) | (simp [rO,ak, *]; done) | (simp [rO,ak, *]; omega) | grind [rO,ak]),hb⟩⟩
 have h4n := aF h4
 refine aW [1,3,37] [(37,aB (r.fin == 0))] <| kC (r.fin == 0) (fun h5 => ?_) (fun h5 => ?_)
 have h5p := cI h5
 refine kQ <| aT [2] [(2,aB false)] <| kR ?_
 exact ⟨[.bool false],by kernel_rfl,fun w' hb hf => ⟨au (show (false : Bool) = rO r from by first | rfl | (rw [HR,HK]; simp [*]; done) | (rw [HR,HK]; simp [*]; omega) | (rw [HR,HK]; grind [bI]) | (simp [rO,ak, *]; done) | (simp [rO,ak, *]; omega) | grind [rO,ak]),hb⟩⟩
 have h5p := cB h5
 refine kK <| kQ <| aW [1,4] [(4,aI (wO r))] <| kS <| kQ <| aT [1,4,41] [(1,.p 0 0),(4,aI (wO r)),(41,aB (r.fin != (-1)))] ?_
 refine kC (r.fin != (-1)) (fun h6 => ?_) (fun h6 => ?_)
 have h6p := neT h6
 refine kG <| aW [1,4] [(4,aI r.fin)] <| kQ <| aW [1,4,5] [(5,aI 0)] ?_
 refine kS <| kQ <| aW [1,4,5,45,46,47] [(45,.v (.slice Arh r.held.length Crh)),(46,aI ((r.held.length : Nat) : Int)),(47,aI 0)] <| ao ?_
 have hp : ak r = true := by first | (simp [ak, *]; done) | (simp [ak, *]; omega) | grind [ak]
 have hin := inB_tt.1 (rcvPre_iff.1 hp).2.2.2.1
 have HR : rO r = (dP (if r.fin = -1 then wO r else r.fin) 0 r.held && bI r) := by unfold rO; rw [hp]; rfl
 refine bc (α := {x : Nat × Int // (fun (k : Nat) (z : Int) => k ≤ r.held.length ∧ 0 ≤ z ∧ z ≤ 32 ∧ dP (if r.fin = -1 then wO r else r.fin) 0 r.held = dP (if r.fin = -1 then wO r else r.fin) z (r.held.drop k)) x.1 x.2}) (fun x => (fun (k : Nat) (z : Int) => (⟨[(1,.p 0 0),(4,aI r.fin),(5,aI z),(45,.v (.slice Arh r.held.length Crh)),(46,aI ((r.held.length : Nat) : Int)),(47,aI (k : Int))],[⟨37,ag r (.slice Arh r.held.length Crh)⟩],[],[aJ (.slice Arh r.held.length Crh) 2 (r.held.map pC)]⟩ : St)) x.1.1 x.1.2) (fun x => r.held.length - x.1.1) ⟨(0,0),⟨Nat.zero_le _,by omega,by omega,rfl⟩⟩ (kF 1 0 [1,4,5,45,46,47]) ?_
 rintro ⟨⟨k,z⟩,hk,hz0,hz1,HK⟩
 try dsimp only
 try dsimp only at hk hz0 hz1 HK
 refine kQ <| aW [1,4,5,45,46,47,48] [(48,aB (decide ((k : Int) < ((r.held.length : Nat) : Int))))] <| kS <| kC (decide ((k : Int) < ((r.held.length : Nat) : Int))) (fun h7 => ?_) (fun h7 => ?_)
 have h7p := of_decide_eq_true h7
 have hlt : k < r.held.length := by simpa using h7
 obtain ⟨x,hx⟩ : ∃ x,r.held[k]? = some x := ⟨_,List.getElem?_eq_getElem hlt⟩
 have hxm := hm x (List.mem_of_getElem? hx)
 rw [fR hx] at HK; simp only [dh,dP] at HK
 refine kK <| kS <| ao <| kQ <| de (kd := .i64) (T := 35) (e := 89) (K := 2) 0 [1,4,5,45,46,47] [] k [iI x.off,.string x.text] (aJ (.slice Arh r.held.length Crh) 2 (r.held.map pC)) (by kernel_rfl) rfl (by kernel_rfl) rfl rfl (by kernel_rfl) (by kernel_rfl) (by kernel_rfl) (by kernel_rfl) hlt (by simp) (fun w h => h) (fun b h => h) (by simp only [List.getElem?_map,hx]; rfl) ?_
 refine gk [1,4,5,7,45,46,47] [(7,.p 1 0)] [⟨89,pceL x⟩] <| kS <| kQ <| di 4 [1,4,5,7,45,46,47,54] [(54,aB (x.text.toList == (⟨#[]⟩ : ByteArray).toList))] ?_
 refine kP 54 (x.text.toList == (⟨#[]⟩ : ByteArray).toList) (fun h8 => ?_) (fun h8 => ?_)
 have h8p := h8; simp only [beq_iff_eq,bne_iff_ne,beq_eq_false_iff_ne,bne_eq_false_iff_eq,ne_eq,bt] at h8p
 refine aW [1,4,7,45,46,47,69] [(69,aB true)] <| kT <| kQ <| aT [2] [(2,aB false)] ?_
 refine kR ?_
 exact ⟨[.bool false],by kernel_rfl,fun w' hb hf => ⟨au (show (false : Bool) = rO r from by first | rfl | (rw [HR,HK]; simp [*]; done) | (rw [HR,HK]; simp [*]; omega) | (rw [HR,HK]; grind [bI]) | (simp [rO,ak, *]; done) | (simp [rO,ak, *]; omega) | grind [rO,ak]),hb⟩⟩
 have h8p := h8; simp only [beq_iff_eq,bne_iff_ne,beq_eq_false_iff_ne,bne_eq_false_iff_eq,ne_eq,bt] at h8p
 refine di 6 [1,4,7,45,46,47,60] [(60,aB (decide (x.off ≤ z)))] <| kP 60 (decide (x.off ≤ z)) (fun h9 => ?_) (fun h9 => ?_)
 have h9p := of_decide_eq_true h9
 refine aW [1,4,7,45,46,47,69] [(69,aB true)] <| kT <| kQ <| aT [2] [(2,aB false)] ?_
 refine kR ?_
 exact ⟨[.bool false],by kernel_rfl,fun w' hb hf => ⟨au (show (false : Bool) = rO r from by first | rfl | (rw [HR,HK]; simp [*]; done) | (rw [HR,HK]; simp [*]; omega) | (rw [HR,HK]; grind [bI]) | (simp [rO,ak, *]; done) | (simp [rO,ak, *]; omega) | grind [rO,ak]),hb⟩⟩
 have h9p := of_decide_eq_false h9
 refine di 9 [1,4,7,45,46,47,69] [(69,aB (decide (x.off > (K6.wrap (r.fin - (x.text.size : Int))))))] <| cU [1,4,7,45,46,47,69] [(69,aB (decide (x.off > (K6.wrap (r.fin - (x.text.size : Int))))))] [(69,aB (decide (x.off > (r.fin - (x.text.size : Int)))))] (by rw [show (K6.wrap (r.fin - (x.text.size : Int))) = (r.fin - (x.text.size : Int)) from al (by omega) (by omega)]) (by kernel_rfl) ?_
 refine aT [1,4,7,45,46,47,69] [(1,.p 0 0),(4,aI r.fin),(7,.p 1 0),(45,.v (.slice Arh r.held.length Crh)),(46,aI ((r.held.length : Nat) : Int)),(47,aI (k : Int)),(69,aB (decide (x.off > (r.fin - (x.text.size : Int)))))] <| kC (decide (x.off > (r.fin - (x.text.size : Int)))) (fun h10 => ?_) (fun h10 => ?_)
 have h10p := of_decide_eq_true h10
 refine kQ <| aT [2] [(2,aB false)] <| kR ?_
 exact ⟨[.bool false],by kernel_rfl,fun w' hb hf => ⟨au (show (false : Bool) = rO r from by first | rfl | (rw [HR,HK]; simp [*]; done) | (rw [HR,HK]; simp [*]; omega) | (rw [HR,HK]; grind [bI]) | (simp [rO,ak, *]; done) | (simp [rO,ak, *]; omega) | grind [rO,ak]),hb⟩⟩
 have h10p := of_decide_eq_false h10
 refine kK <| kG <| di 7 [1,4,5,45,46,47] [(5,aI (K6.wrap (x.off + (x.text.size : Int))))] <| cU [1,4,5,45,46,47] [(5,aI (K6.wrap (x.off + (x.text.size : Int))))] [(5,aI (x.off + (x.text.size : Int)))] (by rw [show (K6.wrap (x.off + (x.text.size : Int))) = (x.off + (x.text.size : Int)) from al (by omega) (by omega)]) (by kernel_rfl) ?_
 refine aW [1,4,5,45,46,47] [] <| kG <| di 2 [1,4,5,45,46,47] [(47,aI (K6.wrap ((k : Int) + 1)))] <| cU [1,4,5,45,46,47] [(47,aI (K6.wrap ((k : Int) + 1)))] [(47,aI ((k : Int) + 1))] (by rw [show (K6.wrap ((k : Int) + 1)) = ((k : Int) + 1) from al (by omega) (by omega)]) (by kernel_rfl) ?_
 refine aW [1,4,5,45,46,47] [] ?_
 exact ⟨⟨(k + 1,x.off + (x.text.size : Int)),⟨by omega,by omega,by omega,by rw [HK]; first | (simp [*]; done) | (simp [*]; omega) | grind⟩⟩,kF 1 0 [1,4,5,45,46,47],by show r.held.length - (k + 1) < r.held.length - k; omega⟩
 have h7p := of_decide_eq_false h7
 have hge : k = r.held.length := by simp at h7; omega
 subst hge; simp only [List.drop_length,dh,dP] at HK
 refine bH <| kQ <| di 4 [1,80] [(80,aB (!r.done))] <| kP 80 (!r.done) (fun h11 => ?_) (fun h11 => ?_)
 have h11n := bS h11
 refine aT [2] [(2,aB true)] <| kR ?_
 exact ⟨[.bool true],by kernel_rfl,fun w' hb hf => ⟨au (show (true : Bool) = rO r from by first | rfl | (rw [HR,HK]; simp [*]; done) | (rw [HR,HK]; simp [*]; omega) | (rw [HR,HK]; grind [bI]) | (simp [rO,ak, *]; done) | (simp [rO,ak, *]; omega) | grind [rO,ak]),hb⟩⟩
 have h11n := aF h11
 refine di 5 [1,80,85] [(80,aB false),(85,aB (((r.held.length : Nat) : Int) == 0))] <| kP 85 (((r.held.length : Nat) : Int) == 0) (fun h12 => ?_) (fun h12 => ?_)
 have h12p := cI h12
 refine aT [2] [(2,aB (r.fin == (-1)))] <| kR ?_
 exact ⟨[.bool (r.fin == (-1))],by kernel_rfl,fun w' hb hf => ⟨au (show (r.fin == (-1) : Bool) = rO r from by first | rfl | (rw [HR,HK]; simp [*]; done) | (rw [HR,HK]; simp [*]; omega) | (rw [HR,HK]; grind [bI]) | (simp [rO,ak, *]; done) | (simp [rO,ak, *]; omega) | grind [rO,ak]),hb⟩⟩
 have h12p := cB h12
 refine aT [2] [(2,aB false)] <| kR ?_
 exact ⟨[.bool false],by kernel_rfl,fun w' hb hf => ⟨au (show (false : Bool) = rO r from by first | rfl | (rw [HR,HK]; simp [*]; done) | (rw [HR,HK]; simp [*]; omega) | (rw [HR,HK]; grind [bI]) | (simp [rO,ak, *]; done) | (simp [rO,ak, *]; omega) | grind [rO,ak]),hb⟩⟩
 have h6p := neF h6
 refine kK <| kQ <| aW [1,4,5] [(5,aI 0)] <| kS <| kQ <| aW [1,4,5,45,46,47] [(45,.v (.slice Arh r.held.length Crh)),(46,aI ((r.held.length : Nat) : Int)),(47,aI 0)] ?_
 refine ao ?_
 have hp : ak r = true := by first | (simp [ak, *]; done) | (simp [ak, *]; omega) | grind [ak]
 have hin := inB_tt.1 (rcvPre_iff.1 hp).2.2.2.1
 have HR : rO r = (dP (if r.fin = -1 then wO r else r.fin) 0 r.held && bI r) := by unfold rO; rw [hp]; rfl
 refine bc (α := {x : Nat × Int // (fun (k : Nat) (z : Int) => k ≤ r.held.length ∧ 0 ≤ z ∧ z ≤ 32 ∧ dP (if r.fin = -1 then wO r else r.fin) 0 r.held = dP (if r.fin = -1 then wO r else r.fin) z (r.held.drop k)) x.1 x.2}) (fun x => (fun (k : Nat) (z : Int) => (⟨[(1,.p 0 0),(4,aI (wO r)),(5,aI z),(45,.v (.slice Arh r.held.length Crh)),(46,aI ((r.held.length : Nat) : Int)),(47,aI (k : Int))],[⟨37,ag r (.slice Arh r.held.length Crh)⟩],[],[aJ (.slice Arh r.held.length Crh) 2 (r.held.map pC)]⟩ : St)) x.1.1 x.1.2) (fun x => r.held.length - x.1.1) ⟨(0,0),⟨Nat.zero_le _,by omega,by omega,rfl⟩⟩ (kF 1 0 [1,4,5,45,46,47]) ?_
 rintro ⟨⟨k,z⟩,hk,hz0,hz1,HK⟩
 try dsimp only
 try dsimp only at hk hz0 hz1 HK
 refine kQ <| aW [1,4,5,45,46,47,48] [(48,aB (decide ((k : Int) < ((r.held.length : Nat) : Int))))] <| kS <| kC (decide ((k : Int) < ((r.held.length : Nat) : Int))) (fun h13 => ?_) (fun h13 => ?_)
 have h13p := of_decide_eq_true h13
 have hlt : k < r.held.length := by simpa using h13
 obtain ⟨x,hx⟩ : ∃ x,r.held[k]? = some x := ⟨_,List.getElem?_eq_getElem hlt⟩
 have hxm := hm x (List.mem_of_getElem? hx)
 rw [fR hx] at HK; simp only [dh,dP] at HK
 refine kK <| kS <| ao <| kQ <| de (kd := .i64) (T := 35) (e := 89) (K := 2) 0 [1,4,5,45,46,47] [] k [iI x.off,.string x.text] (aJ (.slice Arh r.held.length Crh) 2 (r.held.map pC)) (by kernel_rfl) rfl (by kernel_rfl) rfl rfl (by kernel_rfl) (by kernel_rfl) (by kernel_rfl) (by kernel_rfl) hlt (by simp) (fun w h => h) (fun b h => h) (by simp only [List.getElem?_map,hx]; rfl) ?_
 refine gk [1,4,5,7,45,46,47] [(7,.p 1 0)] [⟨89,pceL x⟩] <| kS <| kQ <| di 4 [1,4,5,7,45,46,47,54] [(54,aB (x.text.toList == (⟨#[]⟩ : ByteArray).toList))] ?_
 refine kP 54 (x.text.toList == (⟨#[]⟩ : ByteArray).toList) (fun h14 => ?_) (fun h14 => ?_)
 have h14p := h14; simp only [beq_iff_eq,bne_iff_ne,beq_eq_false_iff_ne,bne_eq_false_iff_eq,ne_eq,bt] at h14p
 refine aW [1,4,7,45,46,47,69] [(69,aB true)] <| kT <| kQ <| aT [2] [(2,aB false)] ?_
 refine kR ?_
 exact ⟨[.bool false],by kernel_rfl,fun w' hb hf => ⟨au (show (false : Bool) = rO r from by first | rfl | (rw [HR,HK]; simp [*]; done) | (rw [HR,HK]; simp [*]; omega) | (rw [HR,HK]; grind [bI]) | (simp [rO,ak, *]; done) | (simp [rO,ak, *]; omega) | grind [rO,ak]),hb⟩⟩
 have h14p := h14; simp only [beq_iff_eq,bne_iff_ne,beq_eq_false_iff_ne,bne_eq_false_iff_eq,ne_eq,bt] at h14p
 refine di 6 [1,4,7,45,46,47,60] [(60,aB (decide (x.off ≤ z)))] <| kP 60 (decide (x.off ≤ z)) (fun h15 => ?_) (fun h15 => ?_)
 have h15p := of_decide_eq_true h15
 refine aW [1,4,7,45,46,47,69] [(69,aB true)] <| kT <| kQ <| aT [2] [(2,aB false)] ?_
 refine kR ?_
 exact ⟨[.bool false],by kernel_rfl,fun w' hb hf => ⟨au (show (false : Bool) = rO r from by first | rfl | (rw [HR,HK]; simp [*]; done) | (rw [HR,HK]; simp [*]; omega) | (rw [HR,HK]; grind [bI]) | (simp [rO,ak, *]; done) | (simp [rO,ak, *]; omega) | grind [rO,ak]),hb⟩⟩
 have h15p := of_decide_eq_false h15
 refine di 9 [1,4,7,45,46,47,69] [(69,aB (decide (x.off > (K6.wrap ((wO r) - (x.text.size : Int))))))] <| cU [1,4,7,45,46,47,69] [(69,aB (decide (x.off > (K6.wrap ((wO r) - (x.text.size : Int))))))] [(69,aB (decide (x.off > ((wO r) - (x.text.size : Int)))))] (by rw [show (K6.wrap ((wO r) - (x.text.size : Int))) = ((wO r) - (x.text.size : Int)) from al (by omega) (by omega)]) (by kernel_rfl) ?_
 refine aW [1,4,7,45,46,47,69] [] <| kC (decide (x.off > ((wO r) - (x.text.size : Int)))) (fun h16 => ?_) (fun h16 => ?_)
 have h16p := of_decide_eq_true h16
 refine kQ <| aT [2] [(2,aB false)] <| kR ?_
 exact ⟨[.bool false],by kernel_rfl,fun w' hb hf => ⟨au (show (false : Bool) = rO r from by first | rfl | (rw [HR,HK]; simp [*]; done) | (rw [HR,HK]; simp [*]; omega) | (rw [HR,HK]; grind [bI]) | (simp [rO,ak, *]; done) | (simp [rO,ak, *]; omega) | grind [rO,ak]),hb⟩⟩
 have h16p := of_decide_eq_false h16
 refine kK <| kG <| dt 7 [1,4,5,45,46,47] [(1,.p 0 0),(4,aI (wO r)),(5,aI (K6.wrap (x.off + (x.text.size : Int)))),(45,.v (.slice Arh r.held.length Crh)),(46,aI ((r.held.length : Nat) : Int)),(47,aI (k : Int))] <| fU (t' := [(1,.p 0 0),(4,aI (wO r)),(5,aI (x.off + (x.text.size : Int))),(45,.v (.slice Arh r.held.length Crh)),(46,aI ((r.held.length : Nat) : Int)),(47,aI (k : Int))]) (by rw [show (K6.wrap (x.off + (x.text.size : Int))) = (x.off + (x.text.size : Int)) from al (by omega) (by omega)]) ?_
 refine aW [1,4,5,45,46,47] [] <| kG <| di 2 [1,4,5,45,46,47] [(47,aI (K6.wrap ((k : Int) + 1)))] <| cU [1,4,5,45,46,47] [(47,aI (K6.wrap ((k : Int) + 1)))] [(47,aI ((k : Int) + 1))] (by rw [show (K6.wrap ((k : Int) + 1)) = ((k : Int) + 1) from al (by omega) (by omega)]) (by kernel_rfl) ?_
 refine aW [1,4,5,45,46,47] [] ?_
 exact ⟨⟨(k + 1,x.off + (x.text.size : Int)),⟨by omega,by omega,by omega,by rw [HK]; first | (simp [*]; done) | (simp [*]; omega) | grind⟩⟩,kF 1 0 [1,4,5,45,46,47],by show r.held.length - (k + 1) < r.held.length - k; omega⟩
 have h13p := of_decide_eq_false h13
 have hge : k = r.held.length := by simp at h13; omega
 subst hge; simp only [List.drop_length,dh,dP] at HK
 refine bH <| kQ <| di 4 [1,80] [(80,aB (!r.done))] <| kP 80 (!r.done) (fun h17 => ?_) (fun h17 => ?_)
 have h17n := bS h17
 refine aT [2] [(2,aB true)] <| kR ?_
 exact ⟨[.bool true],by kernel_rfl,fun w' hb hf => ⟨au (show (true : Bool) = rO r from by first | rfl | (rw [HR,HK]; simp [*]; done) | (rw [HR,HK]; simp [*]; omega) | (rw [HR,HK]; grind [bI]) | (simp [rO,ak, *]; done) | (simp [rO,ak, *]; omega) | grind [rO,ak]),hb⟩⟩
 have h17n := aF h17
 refine di 5 [1,80,85] [(80,aB false),(85,aB (((r.held.length : Nat) : Int) == 0))] <| kP 85 (((r.held.length : Nat) : Int) == 0) (fun h18 => ?_) (fun h18 => ?_)
 have h18p := cI h18
 refine aT [2] [(2,aB (r.fin == (-1)))] <| kR ?_
 exact ⟨[.bool (r.fin == (-1))],by kernel_rfl,fun w' hb hf => ⟨au (show (r.fin == (-1) : Bool) = rO r from by first | rfl | (rw [HR,HK]; simp [*]; done) | (rw [HR,HK]; simp [*]; omega) | (rw [HR,HK]; grind [bI]) | (simp [rO,ak, *]; done) | (simp [rO,ak, *]; omega) | grind [rO,ak]),hb⟩⟩
 have h18p := cB h18
 refine aT [2] [(2,aB false)] <| kR ?_
 exact ⟨[.bool false],by kernel_rfl,fun w' hb hf => ⟨au (show (false : Bool) = rO r from by first | rfl | (rw [HR,HK]; simp [*]; done) | (rw [HR,HK]; simp [*]; omega) | (rw [HR,HK]; grind [bI]) | (simp [rO,ak, *]; done) | (simp [rO,ak, *]; omega) | grind [rO,ak]),hb⟩⟩
theorem ysSameReceiver_c (a : Rcv) (a_heldV : Value) (b : Rcv) (b_heldV : Value) (w : World) (hl_a_heldV : Sl w a_heldV 2 (a.held.map pC)) (hl_b_heldV : Sl w b_heldV 2 (b.held.map pC))  : Calls Tryz.prog 40 #[.agg (ag a a_heldV).toArray, .agg (ag b b_heldV).toArray] w fun e w' => e = .returned (.bool (aD a b)) ∧ Below w.heap.size w w' := by
 obtain ⟨Aah,Cah,hvah⟩ := hl_a_heldV.form
 rw [List.length_map] at hvah; subst hvah
 have hnah := hl_a_heldV.len; rw [List.length_map] at hnah
 have hqah := Sl.capLe hl_a_heldV
 obtain ⟨Abh,Cbh,hvbh⟩ := hl_b_heldV.form
 rw [List.length_map] at hvbh; subst hvbh
 have hnbh := hl_b_heldV.len; rw [List.length_map] at hnbh
 have hqbh := Sl.capLe hl_b_heldV
 refine bZ (args := [.agg (ag a (.slice Aah a.held.length Cah)).toArray,.agg (ag b (.slice Abh b.held.length Cbh)).toArray]) (fn := Tryz.f40) [aJ (.slice Aah a.held.length Cah) 2 (a.held.map pC),aJ (.slice Abh b.held.length Cbh) 2 (b.held.map pC)] Tryz.func40 rfl Tryz.ntmps40 rfl (by simp only [List.mem_cons,List.not_mem_nil,or_false,forall_eq_or_imp,forall_eq]; exact ⟨⟨rfl,hl_a_heldV⟩,⟨rfl,hl_b_heldV⟩⟩) ?_
 refine kQ <| cm [2,3] ⟨[(2,.p 0 0),(3,.p 1 0)],[⟨37,ag a (.slice Aah a.held.length Cah)⟩,⟨37,ag b (.slice Abh b.held.length Cbh)⟩],[],[aJ (.slice Aah a.held.length Cah) 2 (a.held.map pC),aJ (.slice Abh b.held.length Cbh) 2 (b.held.map pC)]⟩ <| kS <| kS <| ba ⟨[(2,.p 0 0),(3,.p 1 0),(40,aB ((a.next != b.next) || ((!(a.data.toList == b.data.toList)) || ((a.fin != b.fin) || ((!(a.done == b.done)) || (((a.held.length : Nat) : Int) != ((b.held.length : Nat) : Int)))))))],[⟨37,ag a (.slice Aah a.held.length Cah)⟩,⟨37,ag b (.slice Abh b.held.length Cbh)⟩],[],[aJ (.slice Aah a.held.length Cah) 2 (a.held.map pC),aJ (.slice Abh b.held.length Cbh) 2 (b.held.map pC)]⟩ ?_ ?_
 refine kG <| dt 6 [2,3,11] [(2,.p 0 0),(3,.p 1 0),(11,aB (a.next != b.next))] <| kP 11 (a.next != b.next) (fun h1 => ?_) (fun h1 => ?_)
 have h1p := neT h1
 refine aT [2,3,40] [(2,.p 0 0),(3,.p 1 0),(40,aB true)] ?_
 show Wk _ _
 try rw [h1]
 exact kF 2 0 [2,3,40]
 have h1p := neF h1
 refine dt 7 [2,3,18] [(2,.p 0 0),(3,.p 1 0),(18,aB (!(a.data.toList == b.data.toList)))] <| kP 18 (!(a.data.toList == b.data.toList)) (fun h2 => ?_) (fun h2 => ?_)
 have h2n := bS h2
 have h2np := h2n; simp only [beq_iff_eq,bne_iff_ne,beq_eq_false_iff_ne,bne_eq_false_iff_eq,ne_eq,bt] at h2np
 refine aT [2,3,40] [(2,.p 0 0),(3,.p 1 0),(40,aB true)] ?_
 show Wk _ _
 try rw [h1]
 try rw [h2]
 exact kF 2 0 [2,3,40]
 have h2n := aF h2
 have h2np := h2n; simp only [beq_iff_eq,bne_iff_ne,beq_eq_false_iff_ne,bne_eq_false_iff_eq,ne_eq,bt] at h2np
 refine dt 7 [2,3,25] [(2,.p 0 0),(3,.p 1 0),(25,aB (a.fin != b.fin))] <| kP 25 (a.fin != b.fin) (fun h3 => ?_) (fun h3 => ?_)
 have h3p := neT h3
 refine aT [2,3,40] [(2,.p 0 0),(3,.p 1 0),(40,aB true)] ?_
 show Wk _ _
 try rw [h1]
 try rw [h2]
 try rw [h3]
 exact kF 2 0 [2,3,40]
 have h3p := neF h3
 refine dt 7 [2,3,32] [(2,.p 0 0),(3,.p 1 0),(32,aB (!(a.done == b.done)))] <| kP 32 (!(a.done == b.done)) (fun h4 => ?_) (fun h4 => ?_)
 have h4n := bS h4
 have h4np := cB h4n
 refine aT [2,3,40] [(2,.p 0 0),(3,.p 1 0),(40,aB true)] ?_
 show Wk _ _
 try rw [h1]
 try rw [h2]
 try rw [h3]
 try rw [h4]
 exact kF 2 0 [2,3,40]
 have h4n := aF h4
 have h4np := cI h4n
 refine aT [2,3,40] [(2,.p 0 0),(3,.p 1 0),(40,aB (((a.held.length : Nat) : Int) != ((b.held.length : Nat) : Int)))] ?_
 show Wk _ _
 try rw [h1]
 try rw [h2]
 try rw [h3]
 try rw [h4]
 exact kF 2 0 [2,3,40]
 refine kC ((a.next != b.next) || ((!(a.data.toList == b.data.toList)) || ((a.fin != b.fin) || ((!(a.done == b.done)) || (((a.held.length : Nat) : Int) != ((b.held.length : Nat) : Int)))))) (fun h5 => ?_) (fun h5 => ?_)
 refine kQ <| aT [4] [(4,aB false)] <| kR ?_
 exact ⟨[.bool false],by kernel_rfl,fun w' hb hf => ⟨au (show (false : Bool) = aD a b from by first | rfl | (simp [aD, *]; done) | grind [aD,bj]),hb⟩⟩
 have h5l := fa h5
 have h5lp := neF h5l
 have h5r := fc h5
 have h5rl := fa h5r
 have h5rln := aF h5rl
 have h5rlnp := h5rln; simp only [beq_iff_eq,bne_iff_ne,beq_eq_false_iff_ne,bne_eq_false_iff_eq,ne_eq,bt] at h5rlnp
 have h5rr := fc h5r
 have h5rrl := fa h5rr
 have h5rrlp := neF h5rrl
 have h5rrr := fc h5rr
 have h5rrrl := fa h5rrr
 have h5rrrln := aF h5rrrl
 have h5rrrlnp := cI h5rrrln
 have h5rrrr := fc h5rrr
 have h5rrrrp := neF h5rrrr
 refine kK <| kS <| kQ <| aT [2,3,5] [(2,.p 0 0),(3,.p 1 0),(5,aI 0)] ?_
 refine ao ?_
 have hlen : a.held.length = b.held.length := by omega
 refine bc (α := {x : Nat // (fun (k : Nat) => k ≤ a.held.length ∧ ∀ (i : Nat) (x y : Pce),i < k → a.held[i]? = some x → b.held[i]? = some y → eo x y = true) x}) (fun x => (fun (k : Nat) => (⟨[(2,.p 0 0),(3,.p 1 0),(5,aI (k : Int))],[⟨37,ag a (.slice Aah a.held.length Cah)⟩,⟨37,ag b (.slice Abh b.held.length Cbh)⟩],[],[aJ (.slice Aah a.held.length Cah) 2 (a.held.map pC),aJ (.slice Abh b.held.length Cbh) 2 (b.held.map pC)]⟩ : St)) x.1) (fun x => a.held.length - x.1) ⟨(0),⟨Nat.zero_le _,fun i x y hi => by omega⟩⟩ (kF 2 0 [2,3,5]) ?_
 rintro ⟨k,hk,HK⟩
 try dsimp only
 try dsimp only at hk HK
 refine kS <| kQ <| aT [2,3,5,45] [(2,.p 0 0),(3,.p 1 0),(5,aI (k : Int)),(45,aB (decide ((k : Int) < ((a.held.length : Nat) : Int))))] <| kC (decide ((k : Int) < ((a.held.length : Nat) : Int))) (fun h6 => ?_) (fun h6 => ?_)
 have h6p := of_decide_eq_true h6
 have hlt : k < a.held.length := by simpa using h6
 obtain ⟨x,hx⟩ : ∃ x,a.held[k]? = some x := ⟨_,List.getElem?_eq_getElem hlt⟩
 obtain ⟨y,hy⟩ : ∃ y,b.held[k]? = some y := ⟨_,List.getElem?_eq_getElem (by omega)⟩
 refine kK <| kS <| ao <| kS <| d5 ?_
 refine cA (K := 2) (j := k) [iI x.off,.string x.text] (aJ (.slice Aah a.held.length Cah) 2 (a.held.map pC)) (fun _ _ h => h) (by simp) (fun w h => h) (fun b h => h) (by simp only [List.getElem?_map,hx]; rfl) (fun bq7 offq7 hAq7 => ?_)
 refine cA (K := 2) (j := k) [iI y.off,.string y.text] (aJ (.slice Abh b.held.length Cbh) 2 (b.held.map pC)) (fun _ _ h => h) (by simp) (fun w h => h) (fun b h => h) (by simp only [List.getElem?_map,hy]; rfl) (fun bq8 offq8 hAq8 => ?_)
 refine ci [] (by kernel_rfl) (fun ρ σ hq9 => ?_)
 refine cJ [0,1,2,5,6,7] [55,54,50,49,2,3,5] 5 [(55,aI (k : Int)),(54,.v (.slice Abh b.held.length Cbh)),(50,aI (k : Int)),(49,.v (.slice Aah a.held.length Cah)),(2,.p 0 0),(3,.p 1 0),(5,aI (k : Int))] <| cX (kd := .i64) (T := 35) (e := 89) (K := 2) (j := k) (A := Aah) (len := a.held.length) (cap := Cah) 3 0 _ rfl (by kernel_rfl) (by kernel_rfl) (by kernel_rfl) (fun _ _ h => h) (by kernel_rfl) rfl rfl (by kernel_rfl) (by kernel_rfl) (by kernel_rfl) (by kernel_rfl) hlt hAq7 hq9.1.2 (by kernel_rfl) rfl ?_
 refine cJ [4] [52,55,54,2,3,5] 3 [(52,.v (.agg (pceL x).toArray)),(55,aI (k : Int)),(54,.v (.slice Abh b.held.length Cbh)),(2,.p 0 0),(3,.p 1 0),(5,aI (k : Int))] <| cX (kd := .i64) (T := 35) (e := 89) (K := 2) (j := k) (A := Abh) (len := b.held.length) (cap := Cbh) 8 1 _ rfl (by kernel_rfl) (by kernel_rfl) (by kernel_rfl) (fun _ _ h => h) (by kernel_rfl) rfl rfl (by kernel_rfl) (by kernel_rfl) (by kernel_rfl) (by kernel_rfl) (by omega) hAq8 hq9.2 (by kernel_rfl) rfl ?_
 refine cJ [9] [57,52,2,3,5] 1 [(57,.v (.agg (pceL y).toArray)),(52,.v (.agg (pceL x).toArray)),(2,.p 0 0),(3,.p 1 0),(5,aI (k : Int))] <| kX 10 (.bool (!eo x y)) rfl (fun _ _ ww hA => co hA rfl (by kernel_rfl) (by kernel_rfl) (ez (by kernel_rfl) (run_neq_PCE x.off x.text y.off y.text ww))) ?_
 refine kZ <| kC (!eo x y) (fun h10 => ?_) (fun h10 => ?_)
 have hno := gZ hx hy (by simpa using h10)
 refine kQ <| aT [4] [(4,aB false)] <| kR ?_
 exact ⟨[.bool false],by kernel_rfl,fun w' hb hf => ⟨au (show (false : Bool) = aD a b from by first | rfl | (simp [aD, *]; done) | grind [aD,bj]),hb⟩⟩
 have hye : eo x y = true := by simpa using h10
 refine kK <| kG <| dt 3 [2,3,5] [(2,.p 0 0),(3,.p 1 0),(5,aI (K6.wrap ((k : Int) + 1)))] <| fU (t' := [(2,.p 0 0),(3,.p 1 0),(5,aI ((k : Int) + 1))]) (by rw [show (K6.wrap ((k : Int) + 1)) = ((k : Int) + 1) from al (by omega) (by omega)]) ?_
 refine aT [2,3,5] [(2,.p 0 0),(3,.p 1 0),(5,aI ((k : Int) + 1))] ?_
 exact ⟨⟨(k + 1),⟨by omega,fE hx hy hye HK⟩⟩,kF 2 0 [2,3,5],by show a.held.length - (k + 1) < a.held.length - k; omega⟩
 have h6p := of_decide_eq_false h6
 have hge : k = a.held.length := by simp at h6; omega
 have hall := eT hge hlen HK
 refine bH <| kQ <| aT [4] [(4,aB true)] <| kR ?_
 exact ⟨[.bool true],by kernel_rfl,fun w' hb hf => ⟨au (show (true : Bool) = aD a b from by first | rfl | (simp [aD, *]; done) | grind [aD,bj]),hb⟩⟩
theorem yEqualPiece_c (a : List Pce) (aV : Value) (b : List Pce) (bV : Value) (w : World) (hl_aV : Sl w aV 2 (a.map pC)) (hl_bV : Sl w bV 2 (b.map pC))  : Calls Tryz.prog 93 #[aV, bV] w fun e w' => e = .returned (.bool (d7 eo a b)) ∧ Below w.heap.size w w' := by
 obtain ⟨Aa,Ca,hva⟩ := hl_aV.form
 rw [List.length_map] at hva; subst hva
 have hna := hl_aV.len; rw [List.length_map] at hna
 have hqa := Sl.capLe hl_aV
 obtain ⟨Ab,Cb,hvb⟩ := hl_bV.form
 rw [List.length_map] at hvb; subst hvb
 have hnb := hl_bV.len; rw [List.length_map] at hnb
 have hqb := Sl.capLe hl_bV
 refine bZ (args := [.slice Aa a.length Ca,.slice Ab b.length Cb]) (fn := Tryz.f93) [aJ (.slice Aa a.length Ca) 2 (a.map pC),aJ (.slice Ab b.length Cb) 2 (b.map pC)] Tryz.func93 rfl Tryz.ntmps93 rfl (by simp only [List.mem_cons,List.not_mem_nil,or_false,forall_eq_or_imp,forall_eq]; exact ⟨⟨rfl,hl_aV⟩,⟨rfl,hl_bV⟩⟩) ?_
 refine kQ <| cm [0,1] ⟨[(0,.v (.slice Aa a.length Ca)),(1,.v (.slice Ab b.length Cb))],[],[],[aJ (.slice Aa a.length Ca) 2 (a.map pC),aJ (.slice Ab b.length Cb) 2 (b.map pC)]⟩ <| kS <| kQ <| aT [0,1,10] [(0,.v (.slice Aa a.length Ca)),(1,.v (.slice Ab b.length Cb)),(10,aB (((a.length : Nat) : Int) != ((b.length : Nat) : Int)))] ?_
 refine kC (((a.length : Nat) : Int) != ((b.length : Nat) : Int)) (fun h1 => ?_) (fun h1 => ?_)
 have h1p := neT h1
 refine kQ <| aT [4] [(4,aB false)] <| kR ?_
 exact ⟨[.bool false],by kernel_rfl,fun w' hb hf => ⟨au (show (false : Bool) = d7 eo a b from by first | rfl | (simp [bj, *]; done) | grind [bj,bj]),hb⟩⟩
 have h1p := neF h1
 refine kK <| kS <| kQ <| aT [0,1,12,13] [(0,.v (.slice Aa a.length Ca)),(1,.v (.slice Ab b.length Cb)),(12,aI ((a.length : Nat) : Int)),(13,aI 0)] ?_
 refine ao ?_
 have hlen : a.length = b.length := by omega
 refine bc (α := {x : Nat // (fun (k : Nat) => k ≤ a.length ∧ ∀ (i : Nat) (x y : Pce),i < k → a[i]? = some x → b[i]? = some y → eo x y = true) x}) (fun x => (fun (k : Nat) => (⟨[(0,.v (.slice Aa a.length Ca)),(1,.v (.slice Ab b.length Cb)),(12,aI ((a.length : Nat) : Int)),(13,aI (k : Int))],[],[],[aJ (.slice Aa a.length Ca) 2 (a.map pC),aJ (.slice Ab b.length Cb) 2 (b.map pC)]⟩ : St)) x.1) (fun x => a.length - x.1) ⟨(0),⟨Nat.zero_le _,fun i x y hi => by omega⟩⟩ (kF 0 0 [0,1,12,13]) ?_
 rintro ⟨k,hk,HK⟩
 try dsimp only
 try dsimp only at hk HK
 refine kQ <| aT [0,1,12,13,14] [(0,.v (.slice Aa a.length Ca)),(1,.v (.slice Ab b.length Cb)),(12,aI ((a.length : Nat) : Int)),(13,aI (k : Int)),(14,aB (decide ((k : Int) < ((a.length : Nat) : Int))))] <| kS <| kC (decide ((k : Int) < ((a.length : Nat) : Int))) (fun h2 => ?_) (fun h2 => ?_)
 have h2p := of_decide_eq_true h2
 have hlt : k < a.length := by simpa using h2
 obtain ⟨x,hx⟩ : ∃ x,a[k]? = some x := ⟨_,List.getElem?_eq_getElem hlt⟩
 obtain ⟨y,hy⟩ : ∃ y,b[k]? = some y := ⟨_,List.getElem?_eq_getElem (by omega)⟩
 refine kK <| kS <| ao <| kQ <| aT [0,1,5,12,13] [(0,.v (.slice Aa a.length Ca)),(1,.v (.slice Ab b.length Cb)),(5,aI (k : Int)),(12,aI ((a.length : Nat) : Int)),(13,aI (k : Int))] ?_
 refine kS <| d5 <| cA (K := 2) (j := k) [iI x.off,.string x.text] (aJ (.slice Aa a.length Ca) 2 (a.map pC)) (fun _ _ h => h) (by simp) (fun w h => h) (fun b h => h) (by simp only [List.getElem?_map,hx]; rfl) (fun bq3 offq3 hAq3 => ?_)
 refine cA (K := 2) (j := k) [iI y.off,.string y.text] (aJ (.slice Ab b.length Cb) 2 (b.map pC)) (fun _ _ h => h) (by simp) (fun w h => h) (fun b h => h) (by simp only [List.getElem?_map,hy]; rfl) (fun bq4 offq4 hAq4 => ?_)
 refine ci [] (by kernel_rfl) (fun ρ σ hq5 => ?_)
 refine cJ [0,1,4,5] [21,20,17,16,0,1,12,13] 5 [(21,aI (k : Int)),(20,.v (.slice Ab b.length Cb)),(17,aI (k : Int)),(16,.v (.slice Aa a.length Ca)),(0,.v (.slice Aa a.length Ca)),(1,.v (.slice Ab b.length Cb)),(12,aI ((a.length : Nat) : Int)),(13,aI (k : Int))] <| cX (kd := .i64) (T := 35) (e := 89) (K := 2) (j := k) (A := Aa) (len := a.length) (cap := Ca) 2 0 _ rfl (by kernel_rfl) (by kernel_rfl) (by kernel_rfl) (fun _ _ h => h) (by kernel_rfl) rfl rfl (by kernel_rfl) (by kernel_rfl) (by kernel_rfl) (by kernel_rfl) hlt hAq3 hq5.1.2 (by kernel_rfl) rfl ?_
 refine cJ [3] [19,21,20,0,1,12,13] 3 [(19,.v (.agg (pceL x).toArray)),(21,aI (k : Int)),(20,.v (.slice Ab b.length Cb)),(0,.v (.slice Aa a.length Ca)),(1,.v (.slice Ab b.length Cb)),(12,aI ((a.length : Nat) : Int)),(13,aI (k : Int))] <| cX (kd := .i64) (T := 35) (e := 89) (K := 2) (j := k) (A := Ab) (len := b.length) (cap := Cb) 6 1 _ rfl (by kernel_rfl) (by kernel_rfl) (by kernel_rfl) (fun _ _ h => h) (by kernel_rfl) rfl rfl (by kernel_rfl) (by kernel_rfl) (by kernel_rfl) (by kernel_rfl) (by omega) hAq4 hq5.2 (by kernel_rfl) rfl ?_
 refine cJ [7] [23,19,0,1,12,13] 1 [(23,.v (.agg (pceL y).toArray)),(19,.v (.agg (pceL x).toArray)),(0,.v (.slice Aa a.length Ca)),(1,.v (.slice Ab b.length Cb)),(12,aI ((a.length : Nat) : Int)),(13,aI (k : Int))] <| kX 8 (.bool (!eo x y)) rfl (fun _ _ ww hA => co hA rfl (by kernel_rfl) (by kernel_rfl) (ez (by kernel_rfl) (run_neq_PCE x.off x.text y.off y.text ww))) ?_
 refine kZ <| kC (!eo x y) (fun h6 => ?_) (fun h6 => ?_)
 have hno := gZ hx hy (by simpa using h6)
 refine kQ <| aT [4] [(4,aB false)] <| kR ?_
 exact ⟨[.bool false],by kernel_rfl,fun w' hb hf => ⟨au (show (false : Bool) = d7 eo a b from by first | rfl | (simp [bj, *]; done) | grind [bj,bj]),hb⟩⟩
 have hye : eo x y = true := by simpa using h6
 refine kK <| kG <| dt 2 [0,1,12,13] [(0,.v (.slice Aa a.length Ca)),(1,.v (.slice Ab b.length Cb)),(12,aI ((a.length : Nat) : Int)),(13,aI (K6.wrap ((k : Int) + 1)))] <| fU (t' := [(0,.v (.slice Aa a.length Ca)),(1,.v (.slice Ab b.length Cb)),(12,aI ((a.length : Nat) : Int)),(13,aI ((k : Int) + 1))]) (by rw [show (K6.wrap ((k : Int) + 1)) = ((k : Int) + 1) from al (by omega) (by omega)]) ?_
 refine aT [0,1,12,13] [(0,.v (.slice Aa a.length Ca)),(1,.v (.slice Ab b.length Cb)),(12,aI ((a.length : Nat) : Int)),(13,aI ((k : Int) + 1))] ?_
 exact ⟨⟨(k + 1),⟨by omega,fE hx hy hye HK⟩⟩,kF 0 0 [0,1,12,13],by show a.length - (k + 1) < a.length - k; omega⟩
 have h2p := of_decide_eq_false h2
 have hge : k = a.length := by simp at h2; omega
 have hall := eT hge hlen HK
 refine bH <| kQ <| aT [4] [(4,aB true)] <| kR ?_
 exact ⟨[.bool true],by kernel_rfl,fun w' hb hf => ⟨au (show (true : Bool) = d7 eo a b from by first | rfl | (simp [bj, *]; done) | grind [bj,bj]),hb⟩⟩
theorem yiSameReceiver_c (a : Rcv) (a_heldV : Value) (b : Rcv) (b_heldV : Value) (w : World) (hl_a_heldV : Sl w a_heldV 2 (a.held.map pC)) (hl_b_heldV : Sl w b_heldV 2 (b.held.map pC))  : Calls Tryz.prog 69 #[.agg (ag a a_heldV).toArray, .agg (ag b b_heldV).toArray] w fun e w' => e = .returned (.bool (aD a b)) ∧ Below w.heap.size w w' := by
 obtain ⟨Aah,Cah,hvah⟩ := hl_a_heldV.form
 rw [List.length_map] at hvah; subst hvah
 have hnah := hl_a_heldV.len; rw [List.length_map] at hnah
 have hqah := Sl.capLe hl_a_heldV
 obtain ⟨Abh,Cbh,hvbh⟩ := hl_b_heldV.form
 rw [List.length_map] at hvbh; subst hvbh
 have hnbh := hl_b_heldV.len; rw [List.length_map] at hnbh
 have hqbh := Sl.capLe hl_b_heldV
 refine bZ (args := [.agg (ag a (.slice Aah a.held.length Cah)).toArray,.agg (ag b (.slice Abh b.held.length Cbh)).toArray]) (fn := Tryz.f69) [aJ (.slice Aah a.held.length Cah) 2 (a.held.map pC),aJ (.slice Abh b.held.length Cbh) 2 (b.held.map pC)] Tryz.func69 rfl Tryz.ntmps69 rfl (by simp only [List.mem_cons,List.not_mem_nil,or_false,forall_eq_or_imp,forall_eq]; exact ⟨⟨rfl,hl_a_heldV⟩,⟨rfl,hl_b_heldV⟩⟩) ?_
 refine kQ <| cm [2,3] ⟨[(2,.p 0 0),(3,.p 1 0)],[⟨37,ag a (.slice Aah a.held.length Cah)⟩,⟨37,ag b (.slice Abh b.held.length Cbh)⟩],[],[aJ (.slice Aah a.held.length Cah) 2 (a.held.map pC),aJ (.slice Abh b.held.length Cbh) 2 (b.held.map pC)]⟩ <| kS <| ba ⟨[(4,aB ((a.next == b.next) && ((a.data.toList == b.data.toList) && ((d7 eo a.held b.held) && ((a.fin == b.fin) && (a.done == b.done))))))],[⟨37,ag a (.slice Aah a.held.length Cah)⟩,⟨37,ag b (.slice Abh b.held.length Cbh)⟩],[],[aJ (.slice Aah a.held.length Cah) 2 (a.held.map pC),aJ (.slice Abh b.held.length Cbh) 2 (b.held.map pC)]⟩ ?_ ?_
 refine kG <| dt 6 [2,3,10] [(2,.p 0 0),(3,.p 1 0),(10,aB (a.next == b.next))] <| kP 10 (a.next == b.next) (fun h1 => ?_) (fun h1 => ?_)
 have h1p := cI h1
 refine dt 7 [2,3,17] [(2,.p 0 0),(3,.p 1 0),(17,aB (a.data.toList == b.data.toList))] <| kP 17 (a.data.toList == b.data.toList) (fun h2 => ?_) (fun h2 => ?_)
 have h2p := h2; simp only [beq_iff_eq,bne_iff_ne,beq_eq_false_iff_ne,bne_eq_false_iff_eq,ne_eq,bt] at h2p
 refine dN 4 [2,3,17,19,21] [(2,.p 0 0),(3,.p 1 0),(17,aB true),(19,.v (.slice Aah a.held.length Cah)),(21,.v (.slice Abh b.held.length Cbh))] 93 [.slice Aah a.held.length Cah,.slice Abh b.held.length Cbh] (some 22) rfl (aA fun ww hf => yEqualPiece_c a.held (.slice Aah a.held.length Cah) b.held (.slice Abh b.held.length Cbh) ww (hf _ m0) (hf _ m1) ) ?_
 intro _
 refine dt 2 [2,3,24] [(2,.p 0 0),(3,.p 1 0),(24,aB (d7 eo a.held b.held))] <| kP 24 (d7 eo a.held b.held) (fun h3 => ?_) (fun h3 => ?_)
 refine dt 7 [2,3,31] [(2,.p 0 0),(3,.p 1 0),(31,aB (a.fin == b.fin))] <| kP 31 (a.fin == b.fin) (fun h4 => ?_) (fun h4 => ?_)
 have h4p := cI h4
 refine aT [4] [(4,aB (a.done == b.done))] ?_
 show Wk _ _
 try rw [h1]
 try rw [h2]
 try rw [h3]
 try rw [h4]
 exact kF 2 0 [4]
 have h4p := cB h4
 refine aT [4] [(4,aB false)] ?_
 show Wk _ _
 try rw [h1]
 try rw [h2]
 try rw [h3]
 try rw [h4]
 exact kF 2 0 [4]
 refine aT [4] [(4,aB false)] ?_
 show Wk _ _
 try rw [h1]
 try rw [h2]
 try rw [h3]
 exact kF 2 0 [4]
 have h2p := h2; simp only [beq_iff_eq,bne_iff_ne,beq_eq_false_iff_ne,bne_eq_false_iff_eq,ne_eq,bt] at h2p
 refine aT [4] [(4,aB false)] ?_
 show Wk _ _
 try rw [h1]
 try rw [h2]
 exact kF 2 0 [4]
 have h1p := cB h1
 refine aT [4] [(4,aB false)] ?_
 show Wk _ _
 try rw [h1]
 exact kF 2 0 [4]
 refine kR ?_
 exact ⟨[.bool ((a.next == b.next) && ((a.data.toList == b.data.toList) && ((d7 eo a.held b.held) && ((a.fin == b.fin) && (a.done == b.done)))))],by kernel_rfl,fun w' hb hf => ⟨au (show ((a.next == b.next) && ((a.data.toList == b.data.toList) && ((d7 eo a.held b.held) && ((a.fin == b.fin) && (a.done == b.done)))) : Bool) = aD a b from by first | rfl | (simp [aD, *]; done) | grind [aD,bj]),hb⟩⟩
theorem ysSameConn_c (a : Con) (a_r_heldV : Value) (b : Con) (b_r_heldV : Value) (w : World) (hl_a_r_heldV : Sl w a_r_heldV 2 (a.r.held.map pC)) (hl_b_r_heldV : Sl w b_r_heldV 2 (b.r.held.map pC))  : Calls Tryz.prog 16 #[.agg (a6 a a_r_heldV).toArray, .agg (a6 b b_r_heldV).toArray] w fun e w' => e = .returned (.bool (bU a b)) ∧ Below w.heap.size w w' := by
 obtain ⟨Aarh,Carh,hvarh⟩ := hl_a_r_heldV.form
 rw [List.length_map] at hvarh; subst hvarh
 have hnarh := hl_a_r_heldV.len; rw [List.length_map] at hnarh
 have hqarh := Sl.capLe hl_a_r_heldV
 obtain ⟨Abrh,Cbrh,hvbrh⟩ := hl_b_r_heldV.form
 rw [List.length_map] at hvbrh; subst hvbrh
 have hnbrh := hl_b_r_heldV.len; rw [List.length_map] at hnbrh
 have hqbrh := Sl.capLe hl_b_r_heldV
 refine bZ (args := [.agg (a6 a (cS Aarh a Carh)).toArray,.agg (a6 b (cS Abrh b Cbrh)).toArray]) (fn := Tryz.f16) [cH Aarh a Carh,cH Abrh b Cbrh] Tryz.func16 rfl Tryz.ntmps16 rfl (by simp only [List.mem_cons,List.not_mem_nil,or_false,forall_eq_or_imp,forall_eq]; exact ⟨⟨rfl,hl_a_r_heldV⟩,⟨rfl,hl_b_r_heldV⟩⟩) ?_
 refine kQ <| cm [2,3] ⟨[(2,.p 0 0),(3,.p 1 0)],[⟨41,a6 a (cS Aarh a Carh)⟩,⟨41,a6 b (cS Abrh b Cbrh)⟩],[],[cH Aarh a Carh,cH Abrh b Cbrh]⟩ <| kS <| ba ⟨[(4,aB ((bz a.t b.t) && ((a.state == b.state) && ((fe a.s b.s) && ((aD a.r b.r) && ((a.window == b.window) && ((a.most == b.most) && ((fZ a.o b.o) && ((a.timer == b.timer) && (a.tries == b.tries))))))))))],[⟨41,a6 a (cS Aarh a Carh)⟩,⟨41,a6 b (cS Abrh b Cbrh)⟩],[],[cH Aarh a Carh,cH Abrh b Cbrh]⟩ ?_ ?_
 refine kG <| kOS 4 [2,3,6,8] [(2,.p 0 0),(3,.p 1 0),(6,.v (.agg (bX a.t).toArray)),(8,.v (.agg (bX b.t).toArray))] (.bool (bz a.t b.t)) rfl (fun _ _ _ ww hr => co hr.1 rfl (by kernel_rfl) (by kernel_rfl) (ez (by kernel_rfl) (ec a.t.ip a.t.port a.t.my b.t.ip b.t.port b.t.my ww))) ?_
 refine dt 1 [2,3,10] [(2,.p 0 0),(3,.p 1 0),(10,aB (bz a.t b.t))] <| kP 10 (bz a.t b.t) (fun h1 => ?_) (fun h1 => ?_)
 refine dt 7 [2,3,17] [(2,.p 0 0),(3,.p 1 0),(17,aB (a.state == b.state))] <| kP 17 (a.state == b.state) (fun h2 => ?_) (fun h2 => ?_)
 have h2p := cI h2
 refine kOS 4 [2,3,17,19,21] [(2,.p 0 0),(3,.p 1 0),(17,aB true),(19,.v (.agg (ai a.s).toArray)),(21,.v (.agg (ai b.s).toArray))] (.bool (fe a.s b.s)) rfl (fun _ _ _ ww hr => co hr.1 rfl (by kernel_rfl) (by kernel_rfl) (ez (by kernel_rfl) (run_eql_SND a.s.una a.s.data a.s.sent a.s.fin a.s.finSent a.s.done b.s.una b.s.data b.s.sent b.s.fin b.s.finSent b.s.done ww))) ?_
 refine dt 2 [2,3,24] [(2,.p 0 0),(3,.p 1 0),(24,aB (fe a.s b.s))] <| kP 24 (fe a.s b.s) (fun h3 => ?_) (fun h3 => ?_)
 refine dN 4 [2,3,24,26,28] [(2,.p 0 0),(3,.p 1 0),(24,aB true),(26,.v (.agg (ag a.r (cS Aarh a Carh)).toArray)),(28,.v (.agg (ag b.r (cS Abrh b Cbrh)).toArray))] 40 [.agg (ag a.r (cS Aarh a Carh)).toArray,.agg (ag b.r (cS Abrh b Cbrh)).toArray] (some 29) rfl (aA fun ww hf => ysSameReceiver_c a.r (cS Aarh a Carh) b.r (cS Abrh b Cbrh) ww (hf _ m0) (hf _ m1) ) ?_
 intro _
 refine dt 2 [2,3,31] [(2,.p 0 0),(3,.p 1 0),(31,aB (aD a.r b.r))] <| kP 31 (aD a.r b.r) (fun h4 => ?_) (fun h4 => ?_)
 refine dt 7 [2,3,38] [(2,.p 0 0),(3,.p 1 0),(38,aB (a.window == b.window))] <| kP 38 (a.window == b.window) (fun h5 => ?_) (fun h5 => ?_)
 have h5p := cI h5
 refine dt 7 [2,3,45] [(2,.p 0 0),(3,.p 1 0),(45,aB (a.most == b.most))] <| kP 45 (a.most == b.most) (fun h6 => ?_) (fun h6 => ?_)
 have h6p := cI h6
 refine kOS 4 [2,3,45,47,49] [(2,.p 0 0),(3,.p 1 0),(45,aB true),(47,.v (.agg (dH a.o).toArray)),(49,.v (.agg (dH b.o).toArray))] (.bool (fZ a.o b.o)) rfl (fun _ _ _ ww hr => co hr.1 rfl (by kernel_rfl) (by kernel_rfl) (ez (by kernel_rfl) (run_eql_OPT a.o.mss a.o.scale a.o.sack a.o.stamp a.o.val a.o.echo b.o.mss b.o.scale b.o.sack b.o.stamp b.o.val b.o.echo ww))) ?_
 refine dt 2 [2,3,52] [(2,.p 0 0),(3,.p 1 0),(52,aB (fZ a.o b.o))] <| kP 52 (fZ a.o b.o) (fun h7 => ?_) (fun h7 => ?_)
 refine dt 7 [2,3,59] [(2,.p 0 0),(3,.p 1 0),(59,aB (a.timer == b.timer))] <| kP 59 (a.timer == b.timer) (fun h8 => ?_) (fun h8 => ?_)
 have h8p := cI h8
 refine aT [4] [(4,aB (a.tries == b.tries))] ?_
 show Wk _ _
 try rw [h1]
 try rw [h2]
 try rw [h3]
 try rw [h4]
 try rw [h5]
 try rw [h6]
 try rw [h7]
 try rw [h8]
 exact kF 2 0 [4]
 have h8p := cB h8
 refine aT [4] [(4,aB false)] ?_
 show Wk _ _
 try rw [h1]
 try rw [h2]
 try rw [h3]
 try rw [h4]
 try rw [h5]
 try rw [h6]
 try rw [h7]
 try rw [h8]
 exact kF 2 0 [4]
 refine aT [4] [(4,aB false)] ?_
 show Wk _ _
 try rw [h1]
 try rw [h2]
 try rw [h3]
 try rw [h4]
 try rw [h5]
 try rw [h6]
 try rw [h7]
 exact kF 2 0 [4]
 have h6p := cB h6
 refine aT [4] [(4,aB false)] ?_
 show Wk _ _
 try rw [h1]
 try rw [h2]
 try rw [h3]
 try rw [h4]
 try rw [h5]
 try rw [h6]
 exact kF 2 0 [4]
 have h5p := cB h5
 refine aT [4] [(4,aB false)] ?_
 show Wk _ _
 try rw [h1]
 try rw [h2]
 try rw [h3]
 try rw [h4]
 try rw [h5]
 exact kF 2 0 [4]
 refine aT [4] [(4,aB false)] ?_
 show Wk _ _
 try rw [h1]
 try rw [h2]
 try rw [h3]
 try rw [h4]
 exact kF 2 0 [4]
 refine aT [4] [(4,aB false)] ?_
 show Wk _ _
 try rw [h1]
 try rw [h2]
 try rw [h3]
 exact kF 2 0 [4]
 have h2p := cB h2
 refine aT [4] [(4,aB false)] ?_
 show Wk _ _
 try rw [h1]
 try rw [h2]
 exact kF 2 0 [4]
 refine aT [4] [(4,aB false)] ?_
 show Wk _ _
 try rw [h1]
 exact kF 2 0 [4]
 refine kR ?_
 exact ⟨[.bool ((bz a.t b.t) && ((a.state == b.state) && ((fe a.s b.s) && ((aD a.r b.r) && ((a.window == b.window) && ((a.most == b.most) && ((fZ a.o b.o) && ((a.timer == b.timer) && (a.tries == b.tries)))))))))],by kernel_rfl,fun w' hb hf => ⟨au (show ((bz a.t b.t) && ((a.state == b.state) && ((fe a.s b.s) && ((aD a.r b.r) && ((a.window == b.window) && ((a.most == b.most) && ((fZ a.o b.o) && ((a.timer == b.timer) && (a.tries == b.tries)))))))) : Bool) = bU a b from by first | rfl | (simp [bU, *]; done) | grind [bU,bj]),hb⟩⟩
theorem yiSameConn_c (a : Con) (a_r_heldV : Value) (b : Con) (b_r_heldV : Value) (w : World) (hl_a_r_heldV : Sl w a_r_heldV 2 (a.r.held.map pC)) (hl_b_r_heldV : Sl w b_r_heldV 2 (b.r.held.map pC))  : Calls Tryz.prog 42 #[.agg (a6 a a_r_heldV).toArray, .agg (a6 b b_r_heldV).toArray] w fun e w' => e = .returned (.bool (bU a b)) ∧ Below w.heap.size w w' := by
 obtain ⟨Aarh,Carh,hvarh⟩ := hl_a_r_heldV.form
 rw [List.length_map] at hvarh; subst hvarh
 have hnarh := hl_a_r_heldV.len; rw [List.length_map] at hnarh
 have hqarh := Sl.capLe hl_a_r_heldV
 obtain ⟨Abrh,Cbrh,hvbrh⟩ := hl_b_r_heldV.form
 rw [List.length_map] at hvbrh; subst hvbrh
 have hnbrh := hl_b_r_heldV.len; rw [List.length_map] at hnbrh
 have hqbrh := Sl.capLe hl_b_r_heldV
 refine bZ (args := [.agg (a6 a (cS Aarh a Carh)).toArray,.agg (a6 b (cS Abrh b Cbrh)).toArray]) (fn := Tryz.f42) [cH Aarh a Carh,cH Abrh b Cbrh] Tryz.func42 rfl Tryz.ntmps42 rfl (by simp only [List.mem_cons,List.not_mem_nil,or_false,forall_eq_or_imp,forall_eq]; exact ⟨⟨rfl,hl_a_r_heldV⟩,⟨rfl,hl_b_r_heldV⟩⟩) ?_
 refine kQ <| cm [2,3] ⟨[(2,.p 0 0),(3,.p 1 0)],[⟨41,a6 a (cS Aarh a Carh)⟩,⟨41,a6 b (cS Abrh b Cbrh)⟩],[],[cH Aarh a Carh,cH Abrh b Cbrh]⟩ <| kS <| ba ⟨[(4,aB ((bz a.t b.t) && ((a.state == b.state) && ((fe a.s b.s) && ((aD a.r b.r) && ((a.window == b.window) && ((a.most == b.most) && ((fZ a.o b.o) && ((a.timer == b.timer) && (a.tries == b.tries))))))))))],[⟨41,a6 a (cS Aarh a Carh)⟩,⟨41,a6 b (cS Abrh b Cbrh)⟩],[],[cH Aarh a Carh,cH Abrh b Cbrh]⟩ ?_ ?_
 refine kG <| kOS 4 [2,3,6,8] [(2,.p 0 0),(3,.p 1 0),(6,.v (.agg (bX a.t).toArray)),(8,.v (.agg (bX b.t).toArray))] (.bool (bz a.t b.t)) rfl (fun _ _ _ ww hr => co hr.1 rfl (by kernel_rfl) (by kernel_rfl) (ez (by kernel_rfl) (ec a.t.ip a.t.port a.t.my b.t.ip b.t.port b.t.my ww))) ?_
 refine dt 1 [2,3,10] [(2,.p 0 0),(3,.p 1 0),(10,aB (bz a.t b.t))] <| kP 10 (bz a.t b.t) (fun h1 => ?_) (fun h1 => ?_)
 refine dt 7 [2,3,17] [(2,.p 0 0),(3,.p 1 0),(17,aB (a.state == b.state))] <| kP 17 (a.state == b.state) (fun h2 => ?_) (fun h2 => ?_)
 have h2p := cI h2
 refine kOS 4 [2,3,17,19,21] [(2,.p 0 0),(3,.p 1 0),(17,aB true),(19,.v (.agg (ai a.s).toArray)),(21,.v (.agg (ai b.s).toArray))] (.bool (fe a.s b.s)) rfl (fun _ _ _ ww hr => co hr.1 rfl (by kernel_rfl) (by kernel_rfl) (ez (by kernel_rfl) (run_eql_SND a.s.una a.s.data a.s.sent a.s.fin a.s.finSent a.s.done b.s.una b.s.data b.s.sent b.s.fin b.s.finSent b.s.done ww))) ?_
 refine dt 2 [2,3,24] [(2,.p 0 0),(3,.p 1 0),(24,aB (fe a.s b.s))] <| kP 24 (fe a.s b.s) (fun h3 => ?_) (fun h3 => ?_)
 refine dN 4 [2,3,24,26,28] [(2,.p 0 0),(3,.p 1 0),(24,aB true),(26,.v (.agg (ag a.r (cS Aarh a Carh)).toArray)),(28,.v (.agg (ag b.r (cS Abrh b Cbrh)).toArray))] 69 [.agg (ag a.r (cS Aarh a Carh)).toArray,.agg (ag b.r (cS Abrh b Cbrh)).toArray] (some 29) rfl (aA fun ww hf => yiSameReceiver_c a.r (cS Aarh a Carh) b.r (cS Abrh b Cbrh) ww (hf _ m0) (hf _ m1) ) ?_
 intro _
 refine dt 2 [2,3,31] [(2,.p 0 0),(3,.p 1 0),(31,aB (aD a.r b.r))] <| kP 31 (aD a.r b.r) (fun h4 => ?_) (fun h4 => ?_)
 refine dt 7 [2,3,38] [(2,.p 0 0),(3,.p 1 0),(38,aB (a.window == b.window))] <| kP 38 (a.window == b.window) (fun h5 => ?_) (fun h5 => ?_)
 have h5p := cI h5
 refine dt 7 [2,3,45] [(2,.p 0 0),(3,.p 1 0),(45,aB (a.most == b.most))] <| kP 45 (a.most == b.most) (fun h6 => ?_) (fun h6 => ?_)
 have h6p := cI h6
 refine kOS 4 [2,3,45,47,49] [(2,.p 0 0),(3,.p 1 0),(45,aB true),(47,.v (.agg (dH a.o).toArray)),(49,.v (.agg (dH b.o).toArray))] (.bool (fZ a.o b.o)) rfl (fun _ _ _ ww hr => co hr.1 rfl (by kernel_rfl) (by kernel_rfl) (ez (by kernel_rfl) (run_eql_OPT a.o.mss a.o.scale a.o.sack a.o.stamp a.o.val a.o.echo b.o.mss b.o.scale b.o.sack b.o.stamp b.o.val b.o.echo ww))) ?_
 refine dt 2 [2,3,52] [(2,.p 0 0),(3,.p 1 0),(52,aB (fZ a.o b.o))] <| kP 52 (fZ a.o b.o) (fun h7 => ?_) (fun h7 => ?_)
 refine dt 7 [2,3,59] [(2,.p 0 0),(3,.p 1 0),(59,aB (a.timer == b.timer))] <| kP 59 (a.timer == b.timer) (fun h8 => ?_) (fun h8 => ?_)
 have h8p := cI h8
 refine aT [4] [(4,aB (a.tries == b.tries))] ?_
 show Wk _ _
 try rw [h1]
 try rw [h2]
 try rw [h3]
 try rw [h4]
 try rw [h5]
 try rw [h6]
 try rw [h7]
 try rw [h8]
 exact kF 2 0 [4]
 have h8p := cB h8
 refine aT [4] [(4,aB false)] ?_
 show Wk _ _
 try rw [h1]
 try rw [h2]
 try rw [h3]
 try rw [h4]
 try rw [h5]
 try rw [h6]
 try rw [h7]
 try rw [h8]
 exact kF 2 0 [4]
 refine aT [4] [(4,aB false)] ?_
 show Wk _ _
 try rw [h1]
 try rw [h2]
 try rw [h3]
 try rw [h4]
 try rw [h5]
 try rw [h6]
 try rw [h7]
 exact kF 2 0 [4]
 have h6p := cB h6
 refine aT [4] [(4,aB false)] ?_
 show Wk _ _
 try rw [h1]
 try rw [h2]
 try rw [h3]
 try rw [h4]
 try rw [h5]
 try rw [h6]
 exact kF 2 0 [4]
 have h5p := cB h5
 refine aT [4] [(4,aB false)] ?_
 show Wk _ _
 try rw [h1]
 try rw [h2]
 try rw [h3]
 try rw [h4]
 try rw [h5]
 exact kF 2 0 [4]
 refine aT [4] [(4,aB false)] ?_
 show Wk _ _
 try rw [h1]
 try rw [h2]
 try rw [h3]
 try rw [h4]
 exact kF 2 0 [4]
 refine aT [4] [(4,aB false)] ?_
 show Wk _ _
 try rw [h1]
 try rw [h2]
 try rw [h3]
 exact kF 2 0 [4]
 have h2p := cB h2
 refine aT [4] [(4,aB false)] ?_
 show Wk _ _
 try rw [h1]
 try rw [h2]
 exact kF 2 0 [4]
 refine aT [4] [(4,aB false)] ?_
 show Wk _ _
 try rw [h1]
 exact kF 2 0 [4]
 refine kR ?_
 exact ⟨[.bool ((bz a.t b.t) && ((a.state == b.state) && ((fe a.s b.s) && ((aD a.r b.r) && ((a.window == b.window) && ((a.most == b.most) && ((fZ a.o b.o) && ((a.timer == b.timer) && (a.tries == b.tries)))))))))],by kernel_rfl,fun w' hb hf => ⟨au (show ((bz a.t b.t) && ((a.state == b.state) && ((fe a.s b.s) && ((aD a.r b.r) && ((a.window == b.window) && ((a.most == b.most) && ((fZ a.o b.o) && ((a.timer == b.timer) && (a.tries == b.tries)))))))) : Bool) = bU a b from by first | rfl | (simp [bU, *]; done) | grind [bU,bj]),hb⟩⟩
theorem l19Fin_c (k : Int) (w : World)  : Calls Tryz.prog 68 #[iI k] w fun e w' => e = .returned (.bool (decide (k ≠ 1 ∧ k ≠ 4))) ∧ Below w.heap.size w w' := by
 refine bZ (args := [iI k]) (fn := Tryz.f68) [] Tryz.func68 rfl Tryz.ntmps68 rfl (by simp) ?_
 refine kQ <| cm [0] ⟨[(0,aI k)],[],[],[]⟩ <| kS <| ba ⟨[(2,aB ((k != 1) && (k != 4)))],[],[],[]⟩ ?_ ?_
 refine kG <| dt 3 [0,5] [(0,aI k),(5,aB (k != 1))] <| kP 5 (k != 1) (fun h1 => ?_) (fun h1 => ?_)
 have h1p := neT h1
 refine aT [2] [(2,aB (k != 4))] ?_
 show Wk _ _
 try rw [h1]
 exact kF 0 0 [2]
 have h1p := neF h1
 refine aT [2] [(2,aB false)] ?_
 show Wk _ _
 try rw [h1]
 exact kF 0 0 [2]
 refine kR ?_
 exact ⟨[.bool ((k != 1) && (k != 4))],by kernel_rfl,fun w' hb hf => ⟨au (show ((k != 1) && (k != 4) : Bool) = decide (k ≠ 1 ∧ k ≠ 4) from by first | rfl | (simp [*]; done) | (simp [*]; omega) | grind [bt]),hb⟩⟩
@[simp] theorem inB18_1 : bA 1 1 8 = true := rfl
@[simp] theorem inB18_2 : bA 2 1 8 = true := rfl
@[simp] theorem inB18_3 : bA 3 1 8 = true := rfl
@[simp] theorem inB18_4 : bA 4 1 8 = true := rfl
@[simp] theorem inB18_5 : bA 5 1 8 = true := rfl
@[simp] theorem inB18_6 : bA 6 1 8 = true := rfl
@[simp] theorem inB18_7 : bA 7 1 8 = true := rfl
@[simp] theorem inB18_8 : bA 8 1 8 = true := rfl
theorem e8 (c : Con) (rV : Value) (w : World) (hZ : Sl w rV 2 (c.r.held.map pC)) (hm : ∀ p ∈ c.r.held, p.text.size ≤ 1048576) (hsz : c.r.data.size ≤ 4611686018427387904) : Calls Tryz.prog 37 #[.agg (a6 c rV).toArray] w fun e w' => e = .returned (.bool (aX c)) ∧ Below w.heap.size w w' := by
 obtain ⟨Z,Y,hY⟩ := hZ.form
 rw [List.length_map] at hY; subst hY
 have hJ := hZ.len; rw [List.length_map] at hJ
 have hqcrh := Sl.capLe hZ
 refine bZ (args := [.agg (a6 c (cS Z c Y)).toArray]) (fn := Tryz.f37) [cH Z c Y] Tryz.func37 rfl Tryz.ntmps37 rfl (by simp only [List.mem_cons,List.not_mem_nil,or_false,forall_eq_or_imp,forall_eq]; exact ⟨rfl,hZ⟩) ?_
 refine kQ <| cm [1] ⟨[(1,.p 0 0)],[⟨41,a6 c (cS Z c Y)⟩],[],[cH Z c Y]⟩ <| kS <| kS <| ba ⟨[(1,.p 0 0),(52,aB ((!(dj c.t)) || ((!(aO c.s)) || ((!(rO c.r)) || ((!(bl c.o)) || ((!(bA c.state 1 8)) || ((!(bA c.window 0 c.most)) || ((decide (c.most > 1073725440)) || (!(bA c.tries 0 3))))))))))],[⟨41,a6 c (cS Z c Y)⟩],[],[cH Z c Y]⟩ ?_ ?_
 refine kG <| dN 2 [1,7] [(1,.p 0 0),(7,.v (.agg (bX c.t).toArray))] 64 [.agg (bX c.t).toArray] (some 8) rfl (aA fun ww hf => sTupleOk_c c.t.ip c.t.port c.t.my ww ) ?_
 intro _
 refine dt 2 [1,10] [(1,.p 0 0),(10,aB (!(dj c.t)))] <| kP 10 (!(dj c.t)) (fun h1 => ?_) (fun h1 => ?_)
 have h1n := bS h1
 refine aT [1,52] [(1,.p 0 0),(52,aB true)] ?_
 show Wk _ _
 try rw [h1]
 exact kF 1 0 [1,52]
 have h1n := aF h1
 refine dN 2 [1,10,12] [(1,.p 0 0),(10,aB false),(12,.v (.agg (ai c.s).toArray))] 65 [.agg (ai c.s).toArray] (some 13) rfl (aA fun ww hf => ea c.s.una c.s.data c.s.sent c.s.fin c.s.finSent c.s.done ww ) ?_
 intro _
 refine dt 3 [1,16] [(1,.p 0 0),(16,aB (!(aO c.s)))] <| kP 16 (!(aO c.s)) (fun h2 => ?_) (fun h2 => ?_)
 have h2n := bS h2
 refine aT [1,52] [(1,.p 0 0),(52,aB true)] ?_
 show Wk _ _
 try rw [h1]
 try rw [h2]
 exact kF 1 0 [1,52]
 have h2n := aF h2
 refine dN 2 [1,16,18] [(1,.p 0 0),(16,aB false),(18,.v (.agg (ag c.r (cS Z c Y)).toArray))] 66 [.agg (ag c.r (cS Z c Y)).toArray] (some 19) rfl (aA fun ww hf => gy c.r (cS Z c Y) ww (hf _ m0) (by assumption) (by omega)) ?_
 intro _
 refine dt 3 [1,22] [(1,.p 0 0),(22,aB (!(rO c.r)))] <| kP 22 (!(rO c.r)) (fun h3 => ?_) (fun h3 => ?_)
 have h3n := bS h3
 refine aT [1,52] [(1,.p 0 0),(52,aB true)] ?_
 show Wk _ _
 try rw [h1]
 try rw [h2]
 try rw [h3]
 exact kF 1 0 [1,52]
 have h3n := aF h3
 refine dN 2 [1,22,24] [(1,.p 0 0),(22,aB false),(24,.v (.agg (dH c.o).toArray))] 67 [.agg (dH c.o).toArray] (some 25) rfl (aA fun ww hf => gU c.o.mss c.o.scale c.o.sack c.o.stamp c.o.val c.o.echo ww ) ?_
 intro _
 refine dt 3 [1,28] [(1,.p 0 0),(28,aB (!(bl c.o)))] <| kP 28 (!(bl c.o)) (fun h4 => ?_) (fun h4 => ?_)
 have h4n := bS h4
 refine aT [1,52] [(1,.p 0 0),(52,aB true)] ?_
 show Wk _ _
 try rw [h1]
 try rw [h2]
 try rw [h3]
 try rw [h4]
 exact kF 1 0 [1,52]
 have h4n := aF h4
 refine dN 2 [1,28,30] [(1,.p 0 0),(28,aB false),(30,aI c.state)] 63 [iI c.state,iI 1,iI 8] (some 31) rfl (c6 fun ww hf => e9 c.state 1 8 ww ) ?_
 intro _
 refine dt 3 [1,34] [(1,.p 0 0),(34,aB (!(bA c.state 1 8)))] <| kP 34 (!(bA c.state 1 8)) (fun h5 => ?_) (fun h5 => ?_)
 have h5n := bS h5
 refine aT [1,52] [(1,.p 0 0),(52,aB true)] ?_
 show Wk _ _
 try rw [h1]
 try rw [h2]
 try rw [h3]
 try rw [h4]
 try rw [h5]
 exact kF 1 0 [1,52]
 have h5n := aF h5
 refine dN 4 [1,34,36,38] [(1,.p 0 0),(34,aB false),(36,aI c.window),(38,aI c.most)] 63 [iI c.window,iI 0,iI c.most] (some 39) rfl (c6 fun ww hf => e9 c.window 0 c.most ww ) ?_
 intro _
 refine dt 3 [1,42] [(1,.p 0 0),(42,aB (!(bA c.window 0 c.most)))] <| kP 42 (!(bA c.window 0 c.most)) (fun h6 => ?_) (fun h6 => ?_)
 have h6n := bS h6
 refine aT [1,52] [(1,.p 0 0),(52,aB true)] ?_
 show Wk _ _
 try rw [h1]
 try rw [h2]
 try rw [h3]
 try rw [h4]
 try rw [h5]
 try rw [h6]
 exact kF 1 0 [1,52]
 have h6n := aF h6
 refine dt 5 [1,47] [(1,.p 0 0),(47,aB (decide (c.most > 1073725440)))] <| kP 47 (decide (c.most > 1073725440)) (fun h7 => ?_) (fun h7 => ?_)
 have h7p := of_decide_eq_true h7
 refine aT [1,52] [(1,.p 0 0),(52,aB true)] ?_
 show Wk _ _
 try rw [h1]
 try rw [h2]
 try rw [h3]
 try rw [h4]
 try rw [h5]
 try rw [h6]
 try rw [h7]
 exact kF 1 0 [1,52]
 have h7p := of_decide_eq_false h7
 refine dN 2 [1,47,49] [(1,.p 0 0),(47,aB false),(49,aI c.tries)] 63 [iI c.tries,iI 0,iI 3] (some 50) rfl (c6 fun ww hf => e9 c.tries 0 3 ww ) ?_
 intro _
 refine aT [1,52] [(1,.p 0 0),(52,aB (!(bA c.tries 0 3)))] ?_
 show Wk _ _
 try rw [h1]
 try rw [h2]
 try rw [h3]
 try rw [h4]
 try rw [h5]
 try rw [h6]
 try rw [h7]
 exact kF 1 0 [1,52]
 refine kC ((!(dj c.t)) || ((!(aO c.s)) || ((!(rO c.r)) || ((!(bl c.o)) || ((!(bA c.state 1 8)) || ((!(bA c.window 0 c.most)) || ((decide (c.most > 1073725440)) || (!(bA c.tries 0 3))))))))) (fun h8 => ?_) (fun h8 => ?_)
 refine kQ <| aT [2] [(2,aB false)] <| kR ?_
 exact ⟨[.bool false],by kernel_rfl,fun w' hb hf => ⟨au (show (false : Bool) = aX c from by first | rfl | (simp [aX,bB,c9,aG, *]; done) | (clear hm hf hb; simp_all [aX,bB,c9,aG]; done) | grind [aX,bB,c9,aG,bA]),hb⟩⟩
 have h8l := fa h8
 have h8ln := aF h8l
 have h8r := fc h8
 have h8rl := fa h8r
 have h8rln := aF h8rl
 have h8rr := fc h8r
 have h8rrl := fa h8rr
 have h8rrln := aF h8rrl
 have h8rrr := fc h8rr
 have h8rrrl := fa h8rrr
 have h8rrrln := aF h8rrrl
 have h8rrrr := fc h8rrr
 have h8rrrrl := fa h8rrrr
 have h8rrrrln := aF h8rrrrl
 have h8rrrrr := fc h8rrrr
 have h8rrrrrl := fa h8rrrrr
 have h8rrrrrln := aF h8rrrrrl
 have h8rrrrrr := fc h8rrrrr
 have h8rrrrrrl := fa h8rrrrrr
 have h8rrrrrrr := fc h8rrrrrr
 have h8rrrrrrrn := aF h8rrrrrrr
 refine kK <| kQ <| aT [1,3] [(1,.p 0 0),(3,aI 3)] <| kS <| kQ <| aT [1,3,55] [(1,.p 0 0),(3,aI 3),(55,aB (c.state == 7))] ?_
 refine ba ⟨[(1,.p 0 0),(3,aI (if (c.state == 7) = true then 4 else 3))],[⟨41,a6 c (cS Z c Y)⟩],[],[cH Z c Y]⟩ ?_ ?_
 refine kC (c.state == 7) (fun h9 => ?_) (fun h9 => ?_)
 have h9p := cI h9
 refine kG <| aT [1,3] [(1,.p 0 0),(3,aI 4)] ?_
 show Wk _ _; rw [h9]; exact kF 1 0 [1,3]
 have h9p := cB h9
 refine kK ?_
 show Wk _ _; rw [h9]; exact kF 1 0 [1,3]
 refine kS <| kQ <| dN 3 [1,57,58] [(1,.p 0 0),(57,aI c.timer),(58,aI (if (c.state == 7) = true then 4 else 3))] 63 [iI c.timer,iI 0,iI (if (c.state == 7) = true then 4 else 3)] (some 59) rfl (c6 fun ww hf => e9 c.timer 0 (if (c.state == 7) = true then 4 else 3) ww ) ?_
 intro _
 refine aT [1,60] [(1,.p 0 0),(60,aB (!(bA c.timer 0 (if (c.state == 7) = true then 4 else 3))))] <| kC (!(bA c.timer 0 (if (c.state == 7) = true then 4 else 3))) (fun h10 => ?_) (fun h10 => ?_)
 have h10n := bS h10
 have h10np := h10n; simp only [beq_iff_eq,bne_iff_ne,beq_eq_false_iff_ne,bne_eq_false_iff_eq,ne_eq,bt] at h10np
 refine kQ <| aT [2] [(2,aB false)] <| kR ?_
 exact ⟨[.bool false],by kernel_rfl,fun w' hb hf => ⟨au (show (false : Bool) = aX c from by first | rfl | (simp [aX,bB,c9,aG, *]; done) | (clear hm hf hb; simp_all [aX,bB,c9,aG]; done) | grind [aX,bB,c9,aG,bA]),hb⟩⟩
 have h10n := aF h10
 have h10np := h10n; simp only [beq_iff_eq,bne_iff_ne,beq_eq_false_iff_ne,bne_eq_false_iff_eq,ne_eq,bt] at h10np
 refine kK <| kS <| kQ <| aT [1,63] [(1,.p 0 0),(63,aB (c.state == 8))] ?_
 refine kC (c.state == 8) (fun h11 => ?_) (fun h11 => ?_)
 have h11p := cI h11
 refine kQ <| aT [2] [(2,aB true)] <| kR ?_
 exact ⟨[.bool true],by kernel_rfl,fun w' hb hf => ⟨au (show (true : Bool) = aX c from by first | rfl | (simp [aX,bB,c9,aG, *]; done) | (clear hm hf hb; simp_all [aX,bB,c9,aG]; done) | grind [aX,bB,c9,aG,bA]),hb⟩⟩
 have h11p := cB h11
 refine kK <| kS <| ba ⟨[(1,.p 0 0),(4,aB ((c.state == 3) || (c.state == 7)))],[⟨41,a6 c (cS Z c Y)⟩],[],[cH Z c Y]⟩ ?_ ?_
 refine kG <| dt 4 [1,67] [(1,.p 0 0),(67,aB (c.state == 3))] <| kP 67 (c.state == 3) (fun h12 => ?_) (fun h12 => ?_)
 have h12p := cI h12
 refine aT [1,4] [(1,.p 0 0),(4,aB true)] ?_
 show Wk _ _
 try rw [h12]
 exact kF 1 0 [1,4]
 have h12p := cB h12
 refine aT [1,4] [(1,.p 0 0),(4,aB (c.state == 7))] ?_
 show Wk _ _
 try rw [h12]
 exact kF 1 0 [1,4]
 refine kS <| ba ⟨[(1,.p 0 0),(4,aB ((c.state == 3) || (c.state == 7))),(5,aB ((c.state == 4) || (decide (c.state ≥ 5))))],[⟨41,a6 c (cS Z c Y)⟩],[],[cH Z c Y]⟩ ?_ ?_
 refine kG <| dt 4 [1,4,75] [(1,.p 0 0),(4,aB ((c.state == 3) || (c.state == 7))),(75,aB (c.state == 4))] <| kP 75 (c.state == 4) (fun h13 => ?_) (fun h13 => ?_)
 have h13p := cI h13
 refine aT [1,4,5] [(1,.p 0 0),(4,aB ((c.state == 3) || (c.state == 7))),(5,aB true)] ?_
 show Wk _ _
 try rw [h13]
 exact kF 1 0 [1,4,5]
 have h13p := cB h13
 refine aT [1,4,5] [(1,.p 0 0),(4,aB ((c.state == 3) || (c.state == 7))),(5,aB (decide (c.state ≥ 5)))] ?_
 show Wk _ _
 try rw [h13]
 exact kF 1 0 [1,4,5]
 refine kS <| ba ⟨[(2,aB ((c.s.fin == (decide (c.state ≠ 1 ∧ c.state ≠ 4))) && ((c.s.done == ((c.state == 3) || (c.state == 7))) && (c.r.done == ((c.state == 4) || (decide (c.state ≥ 5)))))))],[⟨41,a6 c (cS Z c Y)⟩],[],[cH Z c Y]⟩ ?_ ?_
 refine bN [] (by kernel_rfl) (fun ρ σ => ?_)
 refine cJ [0,1,2,3,4] [84,82,1,4,5] 17 [(84,aI c.state),(82,aB c.s.fin),(1,.p 0 0),(4,aB ((c.state == 3) || (c.state == 7))),(5,aB ((c.state == 4) || (decide (c.state ≥ 5))))] <| kA [5] <| du 5 68 [iI c.state] (some 85) rfl (aA fun ww hf => l19Fin_c c.state ww ) ?_
 intro _
 refine cJ [6,7] [87,1,4,5] 14 [(87,aB (c.s.fin == (decide (c.state ≠ 1 ∧ c.state ≠ 4)))),(1,.p 0 0),(4,aB ((c.state == 3) || (c.state == 7))),(5,aB ((c.state == 4) || (decide (c.state ≥ 5))))] <| kY 87 (c.s.fin == (decide (c.state ≠ 1 ∧ c.state ≠ 4))) (fun h14 => ?_) (fun h14 => ?_)
 have h14p := cI h14
 refine cJ [8,9,10,11,12,13,14] [94,1,5] 7 [(94,aB (c.s.done == ((c.state == 3) || (c.state == 7)))),(1,.p 0 0),(5,aB ((c.state == 4) || (decide (c.state ≥ 5))))] <| kY 94 (c.s.done == ((c.state == 3) || (c.state == 7))) (fun h15 => ?_) (fun h15 => ?_)
 have h15p := cI h15
 refine cJ [15,16,17,18,19,20,21] [2] 0 [(2,aB (c.r.done == ((c.state == 4) || (decide (c.state ≥ 5)))))] <| kZ ?_
 show Wk _ _
 try rw [h14]
 try rw [h15]
 exact kF 1 0 [2]
 have h15p := cB h15
 refine cJ [15,16,17,18,19,20,21] [2] 0 [(2,aB false)] <| kZ ?_
 show Wk _ _
 try rw [h14]
 try rw [h15]
 exact kF 1 0 [2]
 have h14p := cB h14
 refine cJ [8,9,10,11,12,13,14,15,16,17,18,19,20,21] [2] 0 [(2,aB false)] <| kZ ?_
 show Wk _ _
 try rw [h14]
 exact kF 1 0 [2]
 refine kR ?_
 exact ⟨[.bool ((c.s.fin == (decide (c.state ≠ 1 ∧ c.state ≠ 4))) && ((c.s.done == ((c.state == 3) || (c.state == 7))) && (c.r.done == ((c.state == 4) || (decide (c.state ≥ 5))))))],by kernel_rfl,fun w' hb hf => ⟨au (show ((c.s.fin == (decide (c.state ≠ 1 ∧ c.state ≠ 4))) && ((c.s.done == ((c.state == 3) || (c.state == 7))) && (c.r.done == ((c.state == 4) || (decide (c.state ≥ 5))))) : Bool) = aX c from by first | rfl | (simp [aX,bB,c9,aG, *]; done) | (clear hm hf hb; simp_all [aX,bB,c9,aG]; done) | grind [aX,bB,c9,aG,bA]),hb⟩⟩
theorem ysWaits_c (c : Con) (rV : Value) (w : World) (hZ : Sl w rV 2 (c.r.held.map pC)) (hm : ∀ p ∈ c.r.held, p.text.size ≤ 1048576) (hsz : c.r.data.size ≤ 4611686018427387904) : Calls Tryz.prog 100 #[.agg (a6 c rV).toArray] w fun e w' => e = .returned (.bool (waits c)) ∧ Below w.heap.size w w' := by
 obtain ⟨Z,Y,hY⟩ := hZ.form
 rw [List.length_map] at hY; subst hY
 have hJ := hZ.len; rw [List.length_map] at hJ
 have hqcrh := Sl.capLe hZ
 refine bZ (args := [.agg (a6 c (cS Z c Y)).toArray]) (fn := Tryz.f100) [cH Z c Y] Tryz.func100 rfl Tryz.ntmps100 rfl (by simp only [List.mem_cons,List.not_mem_nil,or_false,forall_eq_or_imp,forall_eq]; exact ⟨rfl,hZ⟩) ?_
 refine kQ <| cm [1] ⟨[(1,.p 0 0)],[⟨41,a6 c (cS Z c Y)⟩],[],[cH Z c Y]⟩ <| kS <| ba ⟨[(2,aB ((aX c) && ((c.state == 7) || ((c.state != 8) && (gb c)))))],[⟨41,a6 c (cS Z c Y)⟩],[],[cH Z c Y]⟩ ?_ ?_
 refine kG <| dN 1 [1,3] [(1,.p 0 0),(3,.v (.agg (a6 c (cS Z c Y)).toArray))] 37 [.agg (a6 c (cS Z c Y)).toArray] (some 4) rfl (aA fun ww hf => e8 c (cS Z c Y) ww (hf _ m0) (by assumption) (by omega)) ?_
 intro _
 refine dt 1 [1,5] [(1,.p 0 0),(5,aB (aX c))] <| kP 5 (aX c) (fun h1 => ?_) (fun h1 => ?_)
 refine dt 4 [1,5,9] [(1,.p 0 0),(5,aB true),(9,aB (c.state == 7))] <| kP 9 (c.state == 7) (fun h2 => ?_) (fun h2 => ?_)
 have h2p := cI h2
 refine aT [2] [(2,aB true)] ?_
 show Wk _ _
 try rw [h1]
 try rw [h2]
 exact kF 1 0 [2]
 have h2p := cB h2
 refine dt 4 [1,5,9,13] [(1,.p 0 0),(5,aB true),(9,aB false),(13,aB (c.state != 8))] <| kP 13 (c.state != 8) (fun h3 => ?_) (fun h3 => ?_)
 have h3p := neT h3
 refine dN 1 [5,9,13,14] [(5,aB true),(9,aB false),(13,aB true),(14,.v (.agg (a6 c (cS Z c Y)).toArray))] 120 [.agg (a6 c (cS Z c Y)).toArray] (some 15) rfl (aA fun ww hf => ysUnsent_c c (cS Z c Y) ww ) ?_
 intro _
 refine aT [2] [(2,aB (gb c))] ?_
 show Wk _ _
 try rw [h1]
 try rw [h2]
 try rw [h3]
 exact kF 1 0 [2]
 have h3p := neF h3
 refine aT [2] [(2,aB false)] ?_
 show Wk _ _
 try rw [h1]
 try rw [h2]
 try rw [h3]
 exact kF 1 0 [2]
 refine aT [2] [(2,aB false)] ?_
 show Wk _ _
 try rw [h1]
 exact kF 1 0 [2]
 refine kR ?_
 exact ⟨[.bool ((aX c) && ((c.state == 7) || ((c.state != 8) && (gb c))))],by kernel_rfl,fun w' hb hf => ⟨au (show ((aX c) && ((c.state == 7) || ((c.state != 8) && (gb c))) : Bool) = waits c from by first | rfl | (simp [waits, *]; done) | grind [waits]),hb⟩⟩
theorem yiConnOk_c (c : Con) (rV : Value) (w : World) (hZ : Sl w rV 2 (c.r.held.map pC)) (hm : ∀ p ∈ c.r.held, p.text.size ≤ 1048576) (hsz : c.r.data.size ≤ 4611686018427387904) : Calls Tryz.prog 34 #[.agg (a6 c rV).toArray] w fun e w' => e = .returned (.bool (aX c)) ∧ Below w.heap.size w w' := by
 obtain ⟨Z,Y,hY⟩ := hZ.form
 rw [List.length_map] at hY; subst hY
 have hJ := hZ.len; rw [List.length_map] at hJ
 have hqcrh := Sl.capLe hZ
 refine bZ (args := [.agg (a6 c (cS Z c Y)).toArray]) (fn := Tryz.f34) [cH Z c Y] Tryz.func34 rfl Tryz.ntmps34 rfl (by simp only [List.mem_cons,List.not_mem_nil,or_false,forall_eq_or_imp,forall_eq]; exact ⟨rfl,hZ⟩) ?_
 refine kQ <| cm [1] ⟨[(1,.p 0 0)],[⟨41,a6 c (cS Z c Y)⟩],[],[cH Z c Y]⟩ <| kS <| kS <| ba ⟨[(1,.p 0 0),(34,aB ((!(dj c.t)) || ((!(aO c.s)) || ((!(rO c.r)) || ((!(bl c.o)) || (!(bA c.state 1 8)))))))],[⟨41,a6 c (cS Z c Y)⟩],[],[cH Z c Y]⟩ ?_ ?_
 refine kG <| dN 2 [1,8] [(1,.p 0 0),(8,.v (.agg (bX c.t).toArray))] 59 [.agg (bX c.t).toArray] (some 9) rfl (aA fun ww hf => iTupleOk_c c.t.ip c.t.port c.t.my ww ) ?_
 intro _
 refine dt 2 [1,11] [(1,.p 0 0),(11,aB (!(dj c.t)))] <| kP 11 (!(dj c.t)) (fun h1 => ?_) (fun h1 => ?_)
 have h1n := bS h1
 refine aT [1,34] [(1,.p 0 0),(34,aB true)] ?_
 show Wk _ _
 try rw [h1]
 exact kF 1 0 [1,34]
 have h1n := aF h1
 refine dN 2 [1,11,13] [(1,.p 0 0),(11,aB false),(13,.v (.agg (ai c.s).toArray))] 60 [.agg (ai c.s).toArray] (some 14) rfl (aA fun ww hf => iSenderOk_c c.s.una c.s.data c.s.sent c.s.fin c.s.finSent c.s.done ww ) ?_
 intro _
 refine dt 3 [1,17] [(1,.p 0 0),(17,aB (!(aO c.s)))] <| kP 17 (!(aO c.s)) (fun h2 => ?_) (fun h2 => ?_)
 have h2n := bS h2
 refine aT [1,34] [(1,.p 0 0),(34,aB true)] ?_
 show Wk _ _
 try rw [h1]
 try rw [h2]
 exact kF 1 0 [1,34]
 have h2n := aF h2
 refine dN 2 [1,17,19] [(1,.p 0 0),(17,aB false),(19,.v (.agg (ag c.r (cS Z c Y)).toArray))] 61 [.agg (ag c.r (cS Z c Y)).toArray] (some 20) rfl (aA fun ww hf => yiReceiverOk_c c.r (cS Z c Y) ww (hf _ m0) (by assumption) (by omega)) ?_
 intro _
 refine dt 3 [1,23] [(1,.p 0 0),(23,aB (!(rO c.r)))] <| kP 23 (!(rO c.r)) (fun h3 => ?_) (fun h3 => ?_)
 have h3n := bS h3
 refine aT [1,34] [(1,.p 0 0),(34,aB true)] ?_
 show Wk _ _
 try rw [h1]
 try rw [h2]
 try rw [h3]
 exact kF 1 0 [1,34]
 have h3n := aF h3
 refine dN 2 [1,23,25] [(1,.p 0 0),(23,aB false),(25,.v (.agg (dH c.o).toArray))] 62 [.agg (dH c.o).toArray] (some 26) rfl (aA fun ww hf => iOptionsOk_c c.o.mss c.o.scale c.o.sack c.o.stamp c.o.val c.o.echo ww ) ?_
 intro _
 refine dt 3 [1,29] [(1,.p 0 0),(29,aB (!(bl c.o)))] <| kP 29 (!(bl c.o)) (fun h4 => ?_) (fun h4 => ?_)
 have h4n := bS h4
 refine aT [1,34] [(1,.p 0 0),(34,aB true)] ?_
 show Wk _ _
 try rw [h1]
 try rw [h2]
 try rw [h3]
 try rw [h4]
 exact kF 1 0 [1,34]
 have h4n := aF h4
 refine dN 2 [1,29,31] [(1,.p 0 0),(29,aB false),(31,aI c.state)] 58 [iI c.state,iI 1,iI 8] (some 32) rfl (c6 fun ww hf => dc c.state 1 8 ww ) ?_
 intro _
 refine aT [1,34] [(1,.p 0 0),(34,aB (!(bA c.state 1 8)))] ?_
 show Wk _ _
 try rw [h1]
 try rw [h2]
 try rw [h3]
 try rw [h4]
 exact kF 1 0 [1,34]
 refine kC ((!(dj c.t)) || ((!(aO c.s)) || ((!(rO c.r)) || ((!(bl c.o)) || (!(bA c.state 1 8)))))) (fun h5 => ?_) (fun h5 => ?_)
 refine kQ <| aT [2] [(2,aB false)] <| kR ?_
 exact ⟨[.bool false],by kernel_rfl,fun w' hb hf => ⟨au (show (false : Bool) = aX c from by first | rfl | (simp [aX,bB,c9,aG, *]; done) | (clear hm hf hb; simp_all [aX,bB,c9,aG]; done) | grind [aX,bB,c9,aG,bA]),hb⟩⟩
 have h5l := fa h5
 have h5ln := aF h5l
 have h5r := fc h5
 have h5rl := fa h5r
 have h5rln := aF h5rl
 have h5rr := fc h5r
 have h5rrl := fa h5rr
 have h5rrln := aF h5rrl
 have h5rrr := fc h5rr
 have h5rrrl := fa h5rrr
 have h5rrrln := aF h5rrrl
 have h5rrrr := fc h5rrr
 have h5rrrrn := aF h5rrrr
 refine kK <| kQ <| aT [1,3] [(1,.p 0 0),(3,aI 3)] <| kS <| kQ <| aT [1,3,37] [(1,.p 0 0),(3,aI 3),(37,aB (c.state == 7))] ?_
 refine ba ⟨[(1,.p 0 0),(3,aI (if (c.state == 7) = true then 4 else 3))],[⟨41,a6 c (cS Z c Y)⟩],[],[cH Z c Y]⟩ ?_ ?_
 refine kC (c.state == 7) (fun h6 => ?_) (fun h6 => ?_)
 have h6p := cI h6
 refine kG <| aT [1,3] [(1,.p 0 0),(3,aI 4)] ?_
 show Wk _ _; rw [h6]; exact kF 1 0 [1,3]
 have h6p := cB h6
 refine kK ?_
 show Wk _ _; rw [h6]; exact kF 1 0 [1,3]
 refine kS <| kS <| ba ⟨[(1,.p 0 0),(62,aB ((!(bA c.most 0 1073725440)) || ((!(bA c.window 0 c.most)) || ((!(bA c.timer 0 (if (c.state == 7) = true then 4 else 3))) || (!(bA c.tries 0 3))))))],[⟨41,a6 c (cS Z c Y)⟩],[],[cH Z c Y]⟩ ?_ ?_
 refine kG <| dN 2 [1,3,39] [(1,.p 0 0),(3,aI (if (c.state == 7) = true then 4 else 3)),(39,aI c.most)] 58 [iI c.most,iI 0,iI 1073725440] (some 40) rfl (c6 fun ww hf => dc c.most 0 1073725440 ww ) ?_
 intro _
 refine dt 2 [1,3,42] [(1,.p 0 0),(3,aI (if (c.state == 7) = true then 4 else 3)),(42,aB (!(bA c.most 0 1073725440)))] <| kP 42 (!(bA c.most 0 1073725440)) (fun h7 => ?_) (fun h7 => ?_)
 have h7n := bS h7
 refine aT [1,62] [(1,.p 0 0),(62,aB true)] ?_
 show Wk _ _
 try rw [h7]
 exact kF 1 0 [1,62]
 have h7n := aF h7
 refine dN 4 [1,3,42,44,46] [(1,.p 0 0),(3,aI (if (c.state == 7) = true then 4 else 3)),(42,aB false),(44,aI c.window),(46,aI c.most)] 58 [iI c.window,iI 0,iI c.most] (some 47) rfl (c6 fun ww hf => dc c.window 0 c.most ww ) ?_
 intro _
 refine dt 3 [1,3,50] [(1,.p 0 0),(3,aI (if (c.state == 7) = true then 4 else 3)),(50,aB (!(bA c.window 0 c.most)))] <| kP 50 (!(bA c.window 0 c.most)) (fun h8 => ?_) (fun h8 => ?_)
 have h8n := bS h8
 refine aT [1,62] [(1,.p 0 0),(62,aB true)] ?_
 show Wk _ _
 try rw [h7]
 try rw [h8]
 exact kF 1 0 [1,62]
 have h8n := aF h8
 refine dN 3 [1,50,52,53] [(1,.p 0 0),(50,aB false),(52,aI c.timer),(53,aI (if (c.state == 7) = true then 4 else 3))] 58 [iI c.timer,iI 0,iI (if (c.state == 7) = true then 4 else 3)] (some 54) rfl (c6 fun ww hf => dc c.timer 0 (if (c.state == 7) = true then 4 else 3) ww ) ?_
 intro _
 refine dt 3 [1,57] [(1,.p 0 0),(57,aB (!(bA c.timer 0 (if (c.state == 7) = true then 4 else 3))))] <| kP 57 (!(bA c.timer 0 (if (c.state == 7) = true then 4 else 3))) (fun h9 => ?_) (fun h9 => ?_)
 have h9n := bS h9
 have h9np := h9n; simp only [beq_iff_eq,bne_iff_ne,beq_eq_false_iff_ne,bne_eq_false_iff_eq,ne_eq,bt] at h9np
 refine aT [1,62] [(1,.p 0 0),(62,aB true)] ?_
 show Wk _ _
 try rw [h7]
 try rw [h8]
 try rw [h9]
 exact kF 1 0 [1,62]
 have h9n := aF h9
 have h9np := h9n; simp only [beq_iff_eq,bne_iff_ne,beq_eq_false_iff_ne,bne_eq_false_iff_eq,ne_eq,bt] at h9np
 refine dN 2 [1,57,59] [(1,.p 0 0),(57,aB false),(59,aI c.tries)] 58 [iI c.tries,iI 0,iI 3] (some 60) rfl (c6 fun ww hf => dc c.tries 0 3 ww ) ?_
 intro _
 refine aT [1,62] [(1,.p 0 0),(62,aB (!(bA c.tries 0 3)))] ?_
 show Wk _ _
 try rw [h7]
 try rw [h8]
 try rw [h9]
 exact kF 1 0 [1,62]
 refine kC ((!(bA c.most 0 1073725440)) || ((!(bA c.window 0 c.most)) || ((!(bA c.timer 0 (if (c.state == 7) = true then 4 else 3))) || (!(bA c.tries 0 3))))) (fun h10 => ?_) (fun h10 => ?_)
 refine kQ <| aT [2] [(2,aB false)] <| kR ?_
 exact ⟨[.bool false],by kernel_rfl,fun w' hb hf => ⟨au (show (false : Bool) = aX c from by first | rfl | (simp [aX,bB,c9,aG, *]; done) | (clear hm hf hb; simp_all [aX,bB,c9,aG]; done) | grind [aX,bB,c9,aG,bA]),hb⟩⟩
 have h10l := fa h10
 have h10ln := aF h10l
 have h10r := fc h10
 have h10rl := fa h10r
 have h10rln := aF h10rl
 have h10rr := fc h10r
 have h10rrl := fa h10rr
 have h10rrln := aF h10rrl
 have h10rrlnp := h10rrln; simp only [beq_iff_eq,bne_iff_ne,beq_eq_false_iff_ne,bne_eq_false_iff_eq,ne_eq,bt] at h10rrlnp
 have h10rrr := fc h10rr
 have h10rrrn := aF h10rrr
 refine kK <| kS <| bN [] (by kernel_rfl) (fun ρ σ => ?_)
 refine cJ [0,1,2,3,4,5,6,7,8,9,10,11] [6,5,4,1] 0 [(6,aB c.r.done),(5,aB c.s.done),(4,aB c.s.fin),(1,.p 0 0)] <| kZ <| kS <| kQ <| aT [4,5,6,73] [(4,aB c.s.fin),(5,aB c.s.done),(6,aB c.r.done),(73,aI c.state)] ?_
 refine ao <| kQ <| aT [4,5,6,73,74] [(4,aB c.s.fin),(5,aB c.s.done),(6,aB c.r.done),(73,aI c.state),(74,aB (c.state == 1))] <| kC (c.state == 1) (fun h11 => ?_) (fun h11 => ?_)
 have h11p := cI h11
 refine kS <| ba ⟨[(2,aB ((!c.s.fin) && ((!c.s.done) && (!c.r.done))))],[⟨41,a6 c (cS Z c Y)⟩],[],[cH Z c Y]⟩ ?_ ?_
 refine kG <| dt 3 [5,6,78] [(5,aB c.s.done),(6,aB c.r.done),(78,aB (!c.s.fin))] <| kP 78 (!c.s.fin) (fun h12 => ?_) (fun h12 => ?_)
 have h12n := bS h12
 refine dt 4 [6,82] [(6,aB c.r.done),(82,aB (!c.s.done))] <| kP 82 (!c.s.done) (fun h13 => ?_) (fun h13 => ?_)
 have h13n := bS h13
 refine aT [2] [(2,aB (!c.r.done))] ?_
 show Wk _ _
 try rw [h12]
 try rw [h13]
 exact kF 1 0 [2]
 have h13n := aF h13
 refine aT [2] [(2,aB false)] ?_
 show Wk _ _
 try rw [h12]
 try rw [h13]
 exact kF 1 0 [2]
 have h12n := aF h12
 refine aT [2] [(2,aB false)] ?_
 show Wk _ _
 try rw [h12]
 exact kF 1 0 [2]
 refine kR ?_
 exact ⟨[.bool ((!c.s.fin) && ((!c.s.done) && (!c.r.done)))],by kernel_rfl,fun w' hb hf => ⟨au (show ((!c.s.fin) && ((!c.s.done) && (!c.r.done)) : Bool) = aX c from by first | rfl | (simp [aX,bB,c9,aG, *]; done) | (clear hm hf hb; simp_all [aX,bB,c9,aG]; done) | grind [aX,bB,c9,aG,bA]),hb⟩⟩
 have h11p := cB h11
 refine kQ <| aT [4,5,6,73,86] [(4,aB c.s.fin),(5,aB c.s.done),(6,aB c.r.done),(73,aI c.state),(86,aB (c.state == 2))] <| kC (c.state == 2) (fun h14 => ?_) (fun h14 => ?_)
 have h14p := cI h14
 refine kS <| ba ⟨[(2,aB (c.s.fin && ((!c.s.done) && (!c.r.done))))],[⟨41,a6 c (cS Z c Y)⟩],[],[cH Z c Y]⟩ ?_ ?_
 refine kG <| dt 2 [5,6,89] [(5,aB c.s.done),(6,aB c.r.done),(89,aB c.s.fin)] <| kP 89 (c.s.fin) (fun h15 => ?_) (fun h15 => ?_)
 refine dt 4 [6,93] [(6,aB c.r.done),(93,aB (!c.s.done))] <| kP 93 (!c.s.done) (fun h16 => ?_) (fun h16 => ?_)
 have h16n := bS h16
 refine aT [2] [(2,aB (!c.r.done))] ?_
 show Wk _ _
 try rw [h15]
 try rw [h16]
 exact kF 1 0 [2]
 have h16n := aF h16
 refine aT [2] [(2,aB false)] ?_
 show Wk _ _
 try rw [h15]
 try rw [h16]
 exact kF 1 0 [2]
 refine aT [2] [(2,aB false)] ?_
 show Wk _ _
 try rw [h15]
 exact kF 1 0 [2]
 refine kR ?_
 exact ⟨[.bool (c.s.fin && ((!c.s.done) && (!c.r.done)))],by kernel_rfl,fun w' hb hf => ⟨au (show (c.s.fin && ((!c.s.done) && (!c.r.done)) : Bool) = aX c from by first | rfl | (simp [aX,bB,c9,aG, *]; done) | (clear hm hf hb; simp_all [aX,bB,c9,aG]; done) | grind [aX,bB,c9,aG,bA]),hb⟩⟩
 have h14p := cB h14
 refine kQ <| aT [4,5,6,73,97] [(4,aB c.s.fin),(5,aB c.s.done),(6,aB c.r.done),(73,aI c.state),(97,aB (c.state == 3))] <| kC (c.state == 3) (fun h17 => ?_) (fun h17 => ?_)
 have h17p := cI h17
 refine kS <| ba ⟨[(2,aB (c.s.fin && (c.s.done && (!c.r.done))))],[⟨41,a6 c (cS Z c Y)⟩],[],[cH Z c Y]⟩ ?_ ?_
 refine kG <| dt 2 [5,6,100] [(5,aB c.s.done),(6,aB c.r.done),(100,aB c.s.fin)] <| kP 100 (c.s.fin) (fun h18 => ?_) (fun h18 => ?_)
 refine dt 3 [6,103] [(6,aB c.r.done),(103,aB c.s.done)] <| kP 103 (c.s.done) (fun h19 => ?_) (fun h19 => ?_)
 refine aT [2] [(2,aB (!c.r.done))] ?_
 show Wk _ _
 try rw [h18]
 try rw [h19]
 exact kF 1 0 [2]
 refine aT [2] [(2,aB false)] ?_
 show Wk _ _
 try rw [h18]
 try rw [h19]
 exact kF 1 0 [2]
 refine aT [2] [(2,aB false)] ?_
 show Wk _ _
 try rw [h18]
 exact kF 1 0 [2]
 refine kR ?_
 exact ⟨[.bool (c.s.fin && (c.s.done && (!c.r.done)))],by kernel_rfl,fun w' hb hf => ⟨au (show (c.s.fin && (c.s.done && (!c.r.done)) : Bool) = aX c from by first | rfl | (simp [aX,bB,c9,aG, *]; done) | (clear hm hf hb; simp_all [aX,bB,c9,aG]; done) | grind [aX,bB,c9,aG,bA]),hb⟩⟩
 have h17p := cB h17
 refine kQ <| aT [4,5,6,73,107] [(4,aB c.s.fin),(5,aB c.s.done),(6,aB c.r.done),(73,aI c.state),(107,aB (c.state == 4))] <| kC (c.state == 4) (fun h20 => ?_) (fun h20 => ?_)
 have h20p := cI h20
 refine kS <| ba ⟨[(2,aB ((!c.s.fin) && ((!c.s.done) && c.r.done)))],[⟨41,a6 c (cS Z c Y)⟩],[],[cH Z c Y]⟩ ?_ ?_
 refine kG <| dt 3 [5,6,111] [(5,aB c.s.done),(6,aB c.r.done),(111,aB (!c.s.fin))] <| kP 111 (!c.s.fin) (fun h21 => ?_) (fun h21 => ?_)
 have h21n := bS h21
 refine dt 4 [6,115] [(6,aB c.r.done),(115,aB (!c.s.done))] <| kP 115 (!c.s.done) (fun h22 => ?_) (fun h22 => ?_)
 have h22n := bS h22
 refine aT [2] [(2,aB c.r.done)] ?_
 show Wk _ _
 try rw [h21]
 try rw [h22]
 exact kF 1 0 [2]
 have h22n := aF h22
 refine aT [2] [(2,aB false)] ?_
 show Wk _ _
 try rw [h21]
 try rw [h22]
 exact kF 1 0 [2]
 have h21n := aF h21
 refine aT [2] [(2,aB false)] ?_
 show Wk _ _
 try rw [h21]
 exact kF 1 0 [2]
 refine kR ?_
 exact ⟨[.bool ((!c.s.fin) && ((!c.s.done) && c.r.done))],by kernel_rfl,fun w' hb hf => ⟨au (show ((!c.s.fin) && ((!c.s.done) && c.r.done) : Bool) = aX c from by first | rfl | (simp [aX,bB,c9,aG, *]; done) | (clear hm hf hb; simp_all [aX,bB,c9,aG]; done) | grind [aX,bB,c9,aG,bA]),hb⟩⟩
 have h20p := cB h20
 refine kS <| kQ <| aT [4,5,6,73,118] [(4,aB c.s.fin),(5,aB c.s.done),(6,aB c.r.done),(73,aI c.state),(118,aB (c.state == 5))] <| ba ⟨[(4,aB c.s.fin),(5,aB c.s.done),(6,aB c.r.done),(73,aI c.state),(118,aB (if (c.state == 5) = true then c.state == 5 else c.state == 6))],[⟨41,a6 c (cS Z c Y)⟩],[],[cH Z c Y]⟩ ?_ ?_
 refine kC (c.state == 5) (fun h23 => ?_) (fun h23 => ?_)
 have h23p := cI h23
 refine kK ?_
 show Wk _ _; rw [h23]; exact kF 1 0 [4,5,6,73,118]
 have h23p := cB h23
 refine kG <| aT [4,5,6,73,118] [(4,aB c.s.fin),(5,aB c.s.done),(6,aB c.r.done),(73,aI c.state),(118,aB (c.state == 6))] ?_
 show Wk _ _; rw [h23]; exact kF 1 0 [4,5,6,73,118]
 refine kC (if (c.state == 5) = true then c.state == 5 else c.state == 6) (fun h24 => ?_) (fun h24 => ?_)
 have h24p := h24; simp only [beq_iff_eq,bne_iff_ne,beq_eq_false_iff_ne,bne_eq_false_iff_eq,ne_eq,bt] at h24p
 refine kS <| ba ⟨[(2,aB (c.s.fin && ((!c.s.done) && c.r.done)))],[⟨41,a6 c (cS Z c Y)⟩],[],[cH Z c Y]⟩ ?_ ?_
 refine kG <| dt 2 [5,6,122] [(5,aB c.s.done),(6,aB c.r.done),(122,aB c.s.fin)] <| kP 122 (c.s.fin) (fun h25 => ?_) (fun h25 => ?_)
 refine dt 4 [6,126] [(6,aB c.r.done),(126,aB (!c.s.done))] <| kP 126 (!c.s.done) (fun h26 => ?_) (fun h26 => ?_)
 have h26n := bS h26
 refine aT [2] [(2,aB c.r.done)] ?_
 show Wk _ _
 try rw [h25]
 try rw [h26]
 exact kF 1 0 [2]
 have h26n := aF h26
 refine aT [2] [(2,aB false)] ?_
 show Wk _ _
 try rw [h25]
 try rw [h26]
 exact kF 1 0 [2]
 refine aT [2] [(2,aB false)] ?_
 show Wk _ _
 try rw [h25]
 exact kF 1 0 [2]
 refine kR ?_
 exact ⟨[.bool (c.s.fin && ((!c.s.done) && c.r.done))],by kernel_rfl,fun w' hb hf => ⟨au (show (c.s.fin && ((!c.s.done) && c.r.done) : Bool) = aX c from by first | rfl | (simp [aX,bB,c9,aG, *]; done) | (clear hm hf hb; simp_all [aX,bB,c9,aG]; done) | grind [aX,bB,c9,aG,bA]),hb⟩⟩
 have h24p := h24; simp only [beq_iff_eq,bne_iff_ne,beq_eq_false_iff_ne,bne_eq_false_iff_eq,ne_eq,bt] at h24p
 refine kQ <| aT [4,5,6,129] [(4,aB c.s.fin),(5,aB c.s.done),(6,aB c.r.done),(129,aB (c.state == 7))] <| kC (c.state == 7) (fun h27 => ?_) (fun h27 => ?_)
 have h27p := cI h27
 refine kS <| ba ⟨[(2,aB (c.s.fin && (c.s.done && c.r.done)))],[⟨41,a6 c (cS Z c Y)⟩],[],[cH Z c Y]⟩ ?_ ?_
 refine kG <| dt 2 [5,6,132] [(5,aB c.s.done),(6,aB c.r.done),(132,aB c.s.fin)] <| kP 132 (c.s.fin) (fun h28 => ?_) (fun h28 => ?_)
 refine dt 3 [6,135] [(6,aB c.r.done),(135,aB c.s.done)] <| kP 135 (c.s.done) (fun h29 => ?_) (fun h29 => ?_)
 refine aT [2] [(2,aB c.r.done)] ?_
 show Wk _ _
 try rw [h28]
 try rw [h29]
 exact kF 1 0 [2]
 refine aT [2] [(2,aB false)] ?_
 show Wk _ _
 try rw [h28]
 try rw [h29]
 exact kF 1 0 [2]
 refine aT [2] [(2,aB false)] ?_
 show Wk _ _
 try rw [h28]
 exact kF 1 0 [2]
 refine kR ?_
 exact ⟨[.bool (c.s.fin && (c.s.done && c.r.done))],by kernel_rfl,fun w' hb hf => ⟨au (show (c.s.fin && (c.s.done && c.r.done) : Bool) = aX c from by first | rfl | (simp [aX,bB,c9,aG, *]; done) | (clear hm hf hb; simp_all [aX,bB,c9,aG]; done) | grind [aX,bB,c9,aG,bA]),hb⟩⟩
 have h27p := cB h27
 refine kK <| kQ <| aT [2] [(2,aB true)] <| kR ?_
 exact ⟨[.bool true],by kernel_rfl,fun w' hb hf => ⟨au (show (true : Bool) = aX c from by first | rfl | (simp [aX,bB,c9,aG, *]; done) | (clear hm hf hb; simp_all [aX,bB,c9,aG]; done) | grind [aX,bB,c9,aG,bA]),hb⟩⟩
def bk (x : Tab) (x_connsV : Value) (x_waitingV : Value) : List Value := [x_connsV, x_waitingV]
theorem ysFindConn_c (t : Tab) (t_connsV : Value) (t_waitingV : Value) (u : Tup) (w : World) (hl_t_connsV : Sl w t_connsV 25 (t.conns.map aq)) (hh_t_connsV : ∀ x ∈ t.conns, Sl w x.2 2 (x.1.r.held.map pC)) (hl_t_waitingV : Sl w t_waitingV 3 (t.waiting.map a7))  : Calls Tryz.prog 29 #[.agg (bk t t_connsV t_waitingV).toArray, .agg (bX u).toArray] w fun e w' => e = .returned (iI (bv t u)) ∧ Below w.heap.size w w' := by
 obtain ⟨Atc,Ctc,hvtc⟩ := hl_t_connsV.form
 rw [List.length_map] at hvtc; subst hvtc
 have hntc := hl_t_connsV.len; rw [List.length_map] at hntc
 have hqtc := Sl.capLe hl_t_connsV
 obtain ⟨Atw,Ctw,hvtw⟩ := hl_t_waitingV.form
 rw [List.length_map] at hvtw; subst hvtw
 have hntw := hl_t_waitingV.len; rw [List.length_map] at hntw
 have hqtw := Sl.capLe hl_t_waitingV
 refine bZ (args := [.agg (bk t (.slice Atc t.conns.length Ctc) (.slice Atw t.waiting.length Ctw)).toArray,.agg (bX u).toArray]) (fn := Tryz.f29) [aJ (.slice Atc t.conns.length Ctc) 25 (t.conns.map aq),cL t.conns,aJ (.slice Atw t.waiting.length Ctw) 3 (t.waiting.map a7)] Tryz.func29 rfl Tryz.ntmps29 rfl (by simp only [List.mem_cons,List.not_mem_nil,or_false,forall_eq_or_imp,forall_eq]; exact ⟨⟨rfl,hl_t_connsV⟩,⟨rfl,hh_t_connsV⟩,⟨rfl,hl_t_waitingV⟩⟩) ?_
 refine kQ <| cm [2,3] ⟨[(2,.p 0 0),(3,.p 1 0)],[⟨27,bk t (.slice Atc t.conns.length Ctc) (.slice Atw t.waiting.length Ctw)⟩,⟨32,bX u⟩],[],[aJ (.slice Atc t.conns.length Ctc) 25 (t.conns.map aq),cL t.conns,aJ (.slice Atw t.waiting.length Ctw) 3 (t.waiting.map a7)]⟩ <| kS <| kQ <| aW [2,3,5] [(5,aI 0)] ?_
 refine ao <| bc (α := {x : Nat // (fun (k : Nat) => k ≤ t.conns.length ∧ ∀ (i : Nat) (h' : CV),i < k → t.conns[i]? = some h' → bz h'.1.t u = false) x}) (fun x => (fun (k : Nat) => (⟨[(2,.p 0 0),(3,.p 1 0),(5,aI (k : Int))],[⟨27,bk t (.slice Atc t.conns.length Ctc) (.slice Atw t.waiting.length Ctw)⟩,⟨32,bX u⟩],[],[aJ (.slice Atc t.conns.length Ctc) 25 (t.conns.map aq),cL t.conns,aJ (.slice Atw t.waiting.length Ctw) 3 (t.waiting.map a7)]⟩ : St)) x.1) (fun x => t.conns.length - x.1) ⟨(0),⟨Nat.zero_le _,fun i x hi => by omega⟩⟩ (kF 2 0 [2,3,5]) ?_
 rintro ⟨k,hk,HK⟩
 try dsimp only
 try dsimp only at hk HK
 refine kS <| kQ <| aW [2,3,5,10] [(10,aB (decide ((k : Int) < ((t.conns.length : Nat) : Int))))] <| kC (decide ((k : Int) < ((t.conns.length : Nat) : Int))) (fun h1 => ?_) (fun h1 => ?_)
 have h1p := of_decide_eq_true h1
 have hlt : k < t.conns.length := by simpa using h1
 obtain ⟨x0,hx⟩ : ∃ x,t.conns[k]? = some x := ⟨_,List.getElem?_eq_getElem hlt⟩
 obtain ⟨x,xa,xc,rfl⟩ := eB (hh_t_connsV x0 (List.mem_of_getElem? hx))
 refine kK <| kS <| ao <| kS <| d5 ?_
 refine cA (K := 25) (j := k) [iI x.t.ip,iI x.t.port,iI x.t.my,iI x.state,iI x.s.una,.string x.s.data,iI x.s.sent,.bool x.s.fin,.bool x.s.finSent,.bool x.s.done,iI x.r.next,.string x.r.data,.slice xa x.r.held.length xc,iI x.r.fin,.bool x.r.done,iI x.window,iI x.most,iI x.o.mss,iI x.o.scale,.bool x.o.sack,.bool x.o.stamp,iI x.o.val,iI x.o.echo,iI x.timer,iI x.tries] (aJ (.slice Atc t.conns.length Ctc) 25 (t.conns.map aq)) (fun _ _ h => h) (by simp) (fun w h => h) (fun b h => h) (by simp only [List.getElem?_map,hx]; rfl) (fun bq2 offq2 hAq2 => ?_)
 refine ci [] (by kernel_rfl) (fun ρ σ hq3 => ?_)
 refine d9 [0,1,2,6] [19,15,14,2,3,5] 4 [(19,.v (.agg (bX u).toArray)),(15,aI (k : Int)),(14,.v (.slice Atc t.conns.length Ctc))] <| cX (kd := .i64) (T := 24) (e := 41) (K := 25) (j := k) (A := Atc) (len := t.conns.length) (cap := Ctc) 3 0 _ rfl (by kernel_rfl) (by kernel_rfl) (by kernel_rfl) (fun _ _ h => h) (by kernel_rfl) rfl rfl (by kernel_rfl) (by kernel_rfl) (by kernel_rfl) (by kernel_rfl) hlt hAq2 hq3.2 (by kernel_rfl) rfl ?_
 refine d9 [4,5] [18,19,2,3,5] 1 [(18,.v (.agg (bX x.t).toArray))] <| kX 7 (.bool (bz x.t u)) rfl (fun _ _ ww hA => co hA rfl (by kernel_rfl) (by kernel_rfl) (ez (by kernel_rfl) (ec x.t.ip x.t.port x.t.my u.ip u.port u.my ww))) ?_
 refine kZ <| kC (bz x.t u) (fun h4 => ?_) (fun h4 => ?_)
 have hfd := findConn_eq hx (by exact h4) HK
 refine kQ <| aT [4] [(4,aI (k : Int))] <| kR ?_
 exact ⟨[iI (k : Int)],by kernel_rfl,fun w' hb hf => ⟨fP (show ((k : Int) : Int) = bv t u from by first | exact hfd.symm | exact hfn.symm),hb⟩⟩
 have hq : bz x.t u = false := by exact h4
 refine kK <| kG <| di 3 [2,3,5] [(5,aI (K6.wrap ((k : Int) + 1)))] <| cU [2,3,5] [(5,aI (K6.wrap ((k : Int) + 1)))] [(5,aI ((k : Int) + 1))] (by rw [show (K6.wrap ((k : Int) + 1)) = ((k : Int) + 1) from al (by omega) (by omega)]) (by kernel_rfl) ?_
 refine aW [2,3,5] [] ?_
 exact ⟨⟨(k + 1),⟨by omega,no_step (p := fun c : CV => bz c.1.t u) hx hq HK⟩⟩,kF 2 0 [2,3,5],by show t.conns.length - (k + 1) < t.conns.length - k; omega⟩
 have h1p := of_decide_eq_false h1
 have hge : k = t.conns.length := by simp at h1; omega
 have hfn := findConn_no hge HK
 refine bH <| kQ <| aT [4] [(4,aI (-1))] <| kR ?_
 exact ⟨[iI (-1)],by kernel_rfl,fun w' hb hf => ⟨fP (show ((-1) : Int) = bv t u from by first | exact hfd.symm | exact hfn.symm),hb⟩⟩
theorem yFindConn1_c (c : Con) (V : Value) (u : Tup) (g : Nat) (w : World) (hcell : (cellP g 32 [iI u.ip, iI u.port, iI u.my]).p w) : Calls Tryz.prog 39 #[.agg #[iI c.t.ip, iI c.t.port, iI c.t.my, iI c.state, iI c.s.una, .string c.s.data, iI c.s.sent, .bool c.s.fin, .bool c.s.finSent, .bool c.s.done, iI c.r.next, .string c.r.data, V, iI c.r.fin, .bool c.r.done, iI c.window, iI c.most, iI c.o.mss, iI c.o.scale, .bool c.o.sack, .bool c.o.stamp, iI c.o.val, iI c.o.echo, iI c.timer, iI c.tries], gP g] w fun e w' => e = .returned (.bool (bz c.t u)) ∧ Below w.heap.size w w' := by
 refine bZ (args := [.agg #[iI c.t.ip,iI c.t.port,iI c.t.my,iI c.state,iI c.s.una,.string c.s.data,iI c.s.sent,.bool c.s.fin,.bool c.s.finSent,.bool c.s.done,iI c.r.next,.string c.r.data,V,iI c.r.fin,.bool c.r.done,iI c.window,iI c.most,iI c.o.mss,iI c.o.scale,.bool c.o.sack,.bool c.o.stamp,iI c.o.val,iI c.o.echo,iI c.timer,iI c.tries],gP g]) (fn := Tryz.f39) [cellP g 32 [iI u.ip,iI u.port,iI u.my]] Tryz.func39 rfl Tryz.ntmps39 rfl (by simp only [List.mem_cons,List.not_mem_nil,or_false,forall_eq_or_imp,forall_eq]; exact ⟨rfl,hcell⟩) ?_
 refine kQ <| cm [1,2] ⟨[(1,aP g),(2,.p 0 0)],[⟨41,[iI c.t.ip,iI c.t.port,iI c.t.my,iI c.state,iI c.s.una,.string c.s.data,iI c.s.sent,.bool c.s.fin,.bool c.s.finSent,.bool c.s.done,iI c.r.next,.string c.r.data,V,iI c.r.fin,.bool c.r.done,iI c.window,iI c.most,iI c.o.mss,iI c.o.scale,.bool c.o.sack,.bool c.o.stamp,iI c.o.val,iI c.o.echo,iI c.timer,iI c.tries]⟩],[],[cellP g 32 [iI u.ip,iI u.port,iI u.my]]⟩ <| kQ <| gc 2 [1,5] [(5,.v (.agg (bX c.t).toArray))] (.agg (bX u).toArray) rfl (fun _ _ _ ww hr => ldK_run (off := 0) (g := g) (T := 32) (cs := [iI u.ip,iI u.port,iI u.my]) hr rfl (by kernel_rfl) (by simp) (by kernel_rfl)) ?_
 refine gc 0 [5,6] [] (.bool (bz c.t u)) rfl (fun _ _ _ ww hr => co hr.1 rfl (by kernel_rfl) (by kernel_rfl) (ez (by kernel_rfl) (ec c.t.ip c.t.port c.t.my u.ip u.port u.my ww))) ?_
 refine aT [3] [(3,aB (bz c.t u))] <| kR ?_
 exact ⟨[.bool (bz c.t u)],by kernel_rfl,fun w' hb hf => ⟨rfl,hb⟩⟩
theorem yIndexFConn_c (l : List CV) (lV : Value) (u : Tup) (g : Nat) (w : World) (hl_lV : Sl w lV 25 (l.map aq)) (hh_lV : ∀ x ∈ l, Sl w x.2 2 (x.1.r.held.map pC)) (hcell : (cellP g 32 [iI u.ip, iI u.port, iI u.my]).p w) : Calls Tryz.prog 38 #[lV, .func (.func 39) #[] #[gP g]] w fun e w' => e = .returned (iI (bv ⟨l, []⟩ u)) ∧ Below w.heap.size w w' := by
 obtain ⟨Al,Cl,hvl⟩ := hl_lV.form
 rw [List.length_map] at hvl; subst hvl
 have hnl := hl_lV.len; rw [List.length_map] at hnl
 have hql := Sl.capLe hl_lV
 refine bZ (args := [.slice Al l.length Cl,.func (.func 39) #[] #[gP g]]) (fn := Tryz.f38) [aJ (.slice Al l.length Cl) 25 (l.map aq),cL l,cellP g 32 [iI u.ip,iI u.port,iI u.my]] Tryz.func38 rfl Tryz.ntmps38 rfl (by simp only [List.mem_cons,List.not_mem_nil,or_false,forall_eq_or_imp,forall_eq]; exact ⟨⟨rfl,hl_lV⟩,⟨rfl,hh_lV⟩,⟨rfl,hcell⟩⟩) ?_
 refine kQ <| cm [0,1] ⟨[(0,.v (.slice Al l.length Cl)),(1,.v (.func (.func 39) #[] #[gP g]))],[],[],[aJ (.slice Al l.length Cl) 25 (l.map aq),cL l,cellP g 32 [iI u.ip,iI u.port,iI u.my]]⟩ <| kS <| kQ <| aW [0,1,7,8] [(7,aI ((l.length : Nat) : Int)),(8,aI 0)] ?_
 refine ao <| bc (α := {x : Nat // (fun (k : Nat) => k ≤ l.length ∧ ∀ (i : Nat) (h' : CV),i < k → l[i]? = some h' → bz h'.1.t u = false) x}) (fun x => (fun (k : Nat) => (⟨[(0,.v (.slice Al l.length Cl)),(1,.v (.func (.func 39) #[] #[gP g])),(7,aI ((l.length : Nat) : Int)),(8,aI (k : Int))],[],[],[aJ (.slice Al l.length Cl) 25 (l.map aq),cL l,cellP g 32 [iI u.ip,iI u.port,iI u.my]]⟩ : St)) x.1) (fun x => l.length - x.1) ⟨(0),⟨Nat.zero_le _,fun i x hi => by omega⟩⟩ (kF 0 0 [0,1,7,8]) ?_
 rintro ⟨k,hk,HK⟩
 try dsimp only
 try dsimp only at hk HK
 refine kQ <| aW [0,1,7,8,9] [(9,aB (decide ((k : Int) < ((l.length : Nat) : Int))))] <| kS <| kC (decide ((k : Int) < ((l.length : Nat) : Int))) (fun h1 => ?_) (fun h1 => ?_)
 have h1p := of_decide_eq_true h1
 have hlt : k < l.length := by simpa using h1
 obtain ⟨x0,hx⟩ : ∃ x,l[k]? = some x := ⟨_,List.getElem?_eq_getElem hlt⟩
 obtain ⟨x,xa,xc,rfl⟩ := eB (hh_lV x0 (List.mem_of_getElem? hx))
 refine kK <| kS <| ao <| kQ <| aW [0,1,5,7,8] [(5,aI (k : Int))] ?_
 refine kQ <| de (kd := .i64) (T := 24) (e := 41) (K := 25) 3 [0,1,5,7,8,11,12,13] [(11,.v (.func (.func 39) #[] #[gP g])),(12,.v (.slice Al l.length Cl)),(13,aI (k : Int))] k [iI x.t.ip,iI x.t.port,iI x.t.my,iI x.state,iI x.s.una,.string x.s.data,iI x.s.sent,.bool x.s.fin,.bool x.s.finSent,.bool x.s.done,iI x.r.next,.string x.r.data,.slice xa x.r.held.length xc,iI x.r.fin,.bool x.r.done,iI x.window,iI x.most,iI x.o.mss,iI x.o.scale,.bool x.o.sack,.bool x.o.stamp,iI x.o.val,iI x.o.echo,iI x.timer,iI x.tries] (aJ (.slice Al l.length Cl) 25 (l.map aq)) (by kernel_rfl) rfl (by kernel_rfl) rfl rfl (by kernel_rfl) (by kernel_rfl) (by kernel_rfl) (by kernel_rfl) hlt (by simp) (fun w h => h) (fun b h => h) (by simp only [List.getElem?_map,hx]; rfl) ?_
 refine xl_callC 1 [0,1,5,7,8,11,15] ⟨[(0,.v (.slice Al l.length Cl)),(1,.v (.func (.func 39) #[] #[gP g])),(5,aI (k : Int)),(7,aI ((l.length : Nat) : Int)),(8,aI (k : Int)),(11,.v (.func (.func 39) #[] #[gP g])),(15,.v (.agg (a6 x (cS xa x xc)).toArray))],[],[[iI x.t.ip,iI x.t.port,iI x.t.my,iI x.state,iI x.s.una,.string x.s.data,iI x.s.sent,.bool x.s.fin,.bool x.s.finSent,.bool x.s.done,iI x.r.next,.string x.r.data,.slice xa x.r.held.length xc,iI x.r.fin,.bool x.r.done,iI x.window,iI x.most,iI x.o.mss,iI x.o.scale,.bool x.o.sack,.bool x.o.stamp,iI x.o.val,iI x.o.echo,iI x.timer,iI x.tries]],[aJ (.slice Al l.length Cl) 25 (l.map aq),cL l,cellP g 32 [iI u.ip,iI u.port,iI u.my]]⟩ 39 [.agg (a6 x (cS xa x xc)).toArray,gP g] (some 16) (by kernel_rfl) rfl (by kernel_rfl) rfl (by kernel_rfl) (aA fun ww hf => yFindConn1_c x (cS xa x xc) u g ww (hf (cellP g 32 [iI u.ip,iI u.port,iI u.my]) (by simp))) ?_
 intro _
 refine aW [0,1,5,7,8,16] [] <| kC (bz x.t u) (fun h2 => ?_) (fun h2 => ?_)
 have hfd := findConn_eq (t := ⟨l,[]⟩) hx (by exact h2) HK
 refine kQ <| aT [4] [(4,aI (k : Int))] <| kR ?_
 exact ⟨[iI (k : Int)],by kernel_rfl,fun w' hb hf => ⟨fP (by first | exact hfd.symm | exact hfn.symm),hb⟩⟩
 have hq : bz x.t u = false := by exact h2
 refine kK <| kG <| di 2 [0,1,7,8] [(8,aI (K6.wrap ((k : Int) + 1)))] <| cU [0,1,7,8] [(8,aI (K6.wrap ((k : Int) + 1)))] [(8,aI ((k : Int) + 1))] (by rw [show (K6.wrap ((k : Int) + 1)) = ((k : Int) + 1) from al (by omega) (by omega)]) (by kernel_rfl) ?_
 refine aW [0,1,7,8] [] ?_
 exact ⟨⟨(k + 1),⟨by omega,no_step (p := fun c : CV => bz c.1.t u) hx hq HK⟩⟩,kF 0 0 [0,1,7,8],by show l.length - (k + 1) < l.length - k; omega⟩
 have h1p := of_decide_eq_false h1
 have hge : k = l.length := by simp at h1; omega
 have hfn := findConn_no (t := ⟨l,[]⟩) hge HK
 refine bH <| kQ <| aT [4] [(4,aI (-1))] <| kR ?_
 exact ⟨[iI (-1)],by kernel_rfl,fun w' hb hf => ⟨fP (by first | exact hfd.symm | exact hfn.symm),hb⟩⟩
theorem gI (t : Tab) (t_connsV : Value) (t_waitingV : Value) (u : Tup) (w : World) (hl_t_connsV : Sl w t_connsV 25 (t.conns.map aq)) (hh_t_connsV : ∀ x ∈ t.conns, Sl w x.2 2 (x.1.r.held.map pC)) (hl_t_waitingV : Sl w t_waitingV 3 (t.waiting.map a7))  : Calls Tryz.prog 15 #[.agg (bk t t_connsV t_waitingV).toArray, .agg (bX u).toArray] w fun e w' => e = .returned (iI (bv t u)) ∧ Below w.heap.size w w' := by
 obtain ⟨Atc,Ctc,hvtc⟩ := hl_t_connsV.form
 rw [List.length_map] at hvtc; subst hvtc
 have hntc := hl_t_connsV.len; rw [List.length_map] at hntc
 have hqtc := Sl.capLe hl_t_connsV
 obtain ⟨Atw,Ctw,hvtw⟩ := hl_t_waitingV.form
 rw [List.length_map] at hvtw; subst hvtw
 have hntw := hl_t_waitingV.len; rw [List.length_map] at hntw
 have hqtw := Sl.capLe hl_t_waitingV
 refine bZ (args := [.agg (bk t (.slice Atc t.conns.length Ctc) (.slice Atw t.waiting.length Ctw)).toArray,.agg (bX u).toArray]) (fn := Tryz.f15) [aJ (.slice Atc t.conns.length Ctc) 25 (t.conns.map aq),cL t.conns,aJ (.slice Atw t.waiting.length Ctw) 3 (t.waiting.map a7)] Tryz.func15 rfl Tryz.ntmps15 rfl (by simp only [List.mem_cons,List.not_mem_nil,or_false,forall_eq_or_imp,forall_eq]; exact ⟨⟨rfl,hl_t_connsV⟩,⟨rfl,hh_t_connsV⟩,⟨rfl,hl_t_waitingV⟩⟩) ?_
 refine kQ <| cm [2,3] ⟨[(2,.p 0 0),(3,.p 1 0)],[⟨27,bk t (.slice Atc t.conns.length Ctc) (.slice Atw t.waiting.length Ctw)⟩,⟨32,bX u⟩],[],[aJ (.slice Atc t.conns.length Ctc) 25 (t.conns.map aq),cL t.conns,aJ (.slice Atw t.waiting.length Ctw) 3 (t.waiting.map a7)]⟩ <| kS <| xw_pinB 3 32 [iI u.ip,iI u.port,iI u.my] [⟨27,bk t (.slice Atc t.conns.length Ctc) (.slice Atw t.waiting.length Ctw)⟩] rfl (by kernel_rfl) (by kernel_rfl) ?_
 intro g hg hgn
 refine kG <| kOF 2 [3,6] ⟨[(3,aP g),(6,.v (.slice Atc t.conns.length Ctc))],[⟨27,bk t (.slice Atc t.conns.length Ctc) (.slice Atw t.waiting.length Ctw)⟩],[],[eO w.heap.size g 32 [iI u.ip,iI u.port,iI u.my],aJ (.slice Atc t.conns.length Ctc) 25 (t.conns.map aq),cL t.conns,aJ (.slice Atw t.waiting.length Ctw) 3 (t.waiting.map a7)]⟩ (.func (.func 39) #[] #[gP g]) rfl (fun _ _ _ ww hr => act_mkf [gP g] hr.1 rfl (by kernel_rfl) ww) ?_
 refine dR 0 [6,7] [] 38 [.slice Atc t.conns.length Ctc,.func (.func 39) #[] #[gP g]] (some 8) rfl (aA fun ww hf => yIndexFConn_c t.conns (.slice Atc t.conns.length Ctc) u g ww (hf _ m1) (hf _ m2) (hf (eO w.heap.size g 32 [iI u.ip,iI u.port,iI u.my]) (by simp)).2) ?_
 intro _
 refine aT [4] [(4,aI (bv ⟨t.conns,[]⟩ u))] <| kR ?_
 exact ⟨[iI (bv ⟨t.conns,[]⟩ u)],by kernel_rfl,fun w' hb hf => ⟨fP (show (bv ⟨t.conns,[]⟩ u : Int) = bv t u from by rfl),hb⟩⟩
def aQ (a b : Tab) : Bool := d7 (fun x y : CV => bU x.1 y.1) a.conns b.conns && d7 bz a.waiting b.waiting
theorem sameTable_pl {a a' b b' : Tab} (h : pl a.conns = pl a'.conns) (hw : a.waiting = a'.waiting) (h2 : pl b.conns = pl b'.conns) (hw2 : b.waiting = b'.waiting) : aQ a b = aQ a' b' := by
 unfold aQ; rw [sameL_pl,sameL_pl,h,h2,hw,hw2]
theorem yl25Waits_c (l : List Tup) (lV : Value) (u : Tup) (w : World) (hl_lV : Sl w lV 3 (l.map a7))  : Calls Tryz.prog 27 #[lV, .agg (bX u).toArray] w fun e w' => e = .returned (.bool (fv l u)) ∧ Below w.heap.size w w' := by
 obtain ⟨Al,Cl,hvl⟩ := hl_lV.form
 rw [List.length_map] at hvl; subst hvl
 have hnl := hl_lV.len; rw [List.length_map] at hnl
 have hql := Sl.capLe hl_lV
 refine bZ (args := [.slice Al l.length Cl,.agg (bX u).toArray]) (fn := Tryz.f27) [aJ (.slice Al l.length Cl) 3 (l.map a7)] Tryz.func27 rfl Tryz.ntmps27 rfl (by simp only [List.mem_cons,List.not_mem_nil,or_false,forall_eq_or_imp,forall_eq]; exact ⟨rfl,hl_lV⟩) ?_
 refine kQ <| cm [0,3] ⟨[(0,.v (.slice Al l.length Cl)),(3,.p 0 0)],[⟨32,bX u⟩],[],[aJ (.slice Al l.length Cl) 3 (l.map a7)]⟩ <| kS <| kQ <| aW [0,3,5] [(5,aI 0)] ?_
 refine ao <| bc (α := {x : Nat // (fun (k : Nat) => k ≤ l.length ∧ ∀ (i : Nat) (h' : Tup),i < k → l[i]? = some h' → bz h' u = false) x}) (fun x => (fun (k : Nat) => (⟨[(0,.v (.slice Al l.length Cl)),(3,.p 0 0),(5,aI (k : Int))],[⟨32,bX u⟩],[],[aJ (.slice Al l.length Cl) 3 (l.map a7)]⟩ : St)) x.1) (fun x => l.length - x.1) ⟨(0),⟨Nat.zero_le _,fun i x hi => by omega⟩⟩ (kF 1 0 [0,3,5]) ?_
 rintro ⟨k,hk,HK⟩
 try dsimp only
 try dsimp only at hk HK
 refine kS <| kQ <| aW [0,3,5,9] [(9,aB (decide ((k : Int) < ((l.length : Nat) : Int))))] <| kC (decide ((k : Int) < ((l.length : Nat) : Int))) (fun h1 => ?_) (fun h1 => ?_)
 have h1p := of_decide_eq_true h1
 have hlt : k < l.length := by simpa using h1
 obtain ⟨x,hx⟩ : ∃ x,l[k]? = some x := ⟨_,List.getElem?_eq_getElem hlt⟩
 refine kK <| kS <| ao <| kS <| d5 ?_
 refine cA (K := 3) (j := k) [iI x.ip,iI x.port,iI x.my] (aJ (.slice Al l.length Cl) 3 (l.map a7)) (fun _ _ h => h) (by simp) (fun w h => h) (fun b h => h) (by simp only [List.getElem?_map,hx]; rfl) (fun bq2 offq2 hAq2 => ?_)
 refine ci [] (by kernel_rfl) (fun ρ σ hq3 => ?_)
 refine d9 [0,1,4] [16,13,12,0,3,5] 3 [(16,.v (.agg (bX u).toArray)),(13,aI (k : Int)),(12,.v (.slice Al l.length Cl))] <| cX (kd := .i64) (T := 25) (e := 32) (K := 3) (j := k) (A := Al) (len := l.length) (cap := Cl) 2 0 _ rfl (by kernel_rfl) (by kernel_rfl) (by kernel_rfl) (fun _ _ h => h) (by kernel_rfl) rfl rfl (by kernel_rfl) (by kernel_rfl) (by kernel_rfl) (by kernel_rfl) hlt hAq2 hq3.2 (by kernel_rfl) rfl ?_
 refine d9 [3] [15,16,0,3,5] 1 [(15,.v (.agg (bX x).toArray))] <| kX 5 (.bool (bz x u)) rfl (fun _ _ ww hA => co hA rfl (by kernel_rfl) (by kernel_rfl) (ez (by kernel_rfl) (ec x.ip x.port x.my u.ip u.port u.my ww))) ?_
 refine kZ <| kC (bz x u) (fun h4 => ?_) (fun h4 => ?_)
 have hfd := (fun a b (_ : ∀ (i : Nat) (h' : Tup),i < k → l[i]? = some h' → bz h' u = false) => isWait_yes (l := l) (k := k) a b) hx (by exact h4) HK
 refine kQ <| aT [4] [(4,aB true)] <| kR ?_
 exact ⟨[.bool true],by kernel_rfl,fun w' hb hf => ⟨au (show (true : Bool) = fv l u from by first | exact hfd.symm | exact hfn.symm),hb⟩⟩
 have hq : bz x u = false := by exact h4
 refine kK <| kG <| di 3 [0,3,5] [(5,aI (K6.wrap ((k : Int) + 1)))] <| cU [0,3,5] [(5,aI (K6.wrap ((k : Int) + 1)))] [(5,aI ((k : Int) + 1))] (by rw [show (K6.wrap ((k : Int) + 1)) = ((k : Int) + 1) from al (by omega) (by omega)]) (by kernel_rfl) ?_
 refine aW [0,3,5] [] ?_
 exact ⟨⟨(k + 1),⟨by omega,no_step (p := fun c : Tup => bz c u) hx hq HK⟩⟩,kF 1 0 [0,3,5],by show l.length - (k + 1) < l.length - k; omega⟩
 have h1p := of_decide_eq_false h1
 have hge : k = l.length := by simp at h1; omega
 have hfn := isWait_no hge HK
 refine bH <| kQ <| aT [4] [(4,aB false)] <| kR ?_
 exact ⟨[.bool false],by kernel_rfl,fun w' hb hf => ⟨au (show (false : Bool) = fv l u from by first | exact hfd.symm | exact hfn.symm),hb⟩⟩
theorem yIndexTuple_c (l : List Tup) (lV : Value) (u : Tup) (w : World) (hl_lV : Sl w lV 3 (l.map a7))  : Calls Tryz.prog 35 #[lV, .agg (bX u).toArray] w fun e w' => e = .returned (iI (dG l u)) ∧ Below w.heap.size w w' := by
 obtain ⟨Al,Cl,hvl⟩ := hl_lV.form
 rw [List.length_map] at hvl; subst hvl
 have hnl := hl_lV.len; rw [List.length_map] at hnl
 have hql := Sl.capLe hl_lV
 refine bZ (args := [.slice Al l.length Cl,.agg (bX u).toArray]) (fn := Tryz.f35) [aJ (.slice Al l.length Cl) 3 (l.map a7)] Tryz.func35 rfl Tryz.ntmps35 rfl (by simp only [List.mem_cons,List.not_mem_nil,or_false,forall_eq_or_imp,forall_eq]; exact ⟨rfl,hl_lV⟩) ?_
 refine kQ <| cm [0,3] ⟨[(0,.v (.slice Al l.length Cl)),(3,.p 0 0)],[⟨32,bX u⟩],[],[aJ (.slice Al l.length Cl) 3 (l.map a7)]⟩ <| kS <| kQ <| aW [0,3,7,8] [(7,aI ((l.length : Nat) : Int)),(8,aI 0)] ?_
 refine ao <| bc (α := {x : Nat // (fun (k : Nat) => k ≤ l.length ∧ ∀ (i : Nat) (h' : Tup),i < k → l[i]? = some h' → bz h' u = false) x}) (fun x => (fun (k : Nat) => (⟨[(0,.v (.slice Al l.length Cl)),(3,.p 0 0),(7,aI ((l.length : Nat) : Int)),(8,aI (k : Int))],[⟨32,bX u⟩],[],[aJ (.slice Al l.length Cl) 3 (l.map a7)]⟩ : St)) x.1) (fun x => l.length - x.1) ⟨(0),⟨Nat.zero_le _,fun i x hi => by omega⟩⟩ (kF 1 0 [0,3,7,8]) ?_
 rintro ⟨k,hk,HK⟩
 try dsimp only
 try dsimp only at hk HK
 refine kQ <| aW [0,3,7,8,9] [(9,aB (decide ((k : Int) < ((l.length : Nat) : Int))))] <| kS <| kC (decide ((k : Int) < ((l.length : Nat) : Int))) (fun h1 => ?_) (fun h1 => ?_)
 have h1p := of_decide_eq_true h1
 have hlt : k < l.length := by simpa using h1
 obtain ⟨x,hx⟩ : ∃ x,l[k]? = some x := ⟨_,List.getElem?_eq_getElem hlt⟩
 refine kK <| kS <| ao <| kQ <| aW [0,3,5,7,8] [(5,aI (k : Int))] ?_
 refine kS <| d5 <| cA (K := 3) (j := k) [iI x.ip,iI x.port,iI x.my] (aJ (.slice Al l.length Cl) 3 (l.map a7)) (fun _ _ h => h) (by simp) (fun w h => h) (fun b h => h) (by simp only [List.getElem?_map,hx]; rfl) (fun bq2 offq2 hAq2 => ?_)
 refine ci [] (by kernel_rfl) (fun ρ σ hq3 => ?_)
 refine d9 [0,1,2] [13,12,11,0,3,5,7,8] 3 [(13,aI (k : Int)),(12,.v (.slice Al l.length Cl)),(11,.v (.agg (bX u).toArray))] <| cX (kd := .i64) (T := 25) (e := 32) (K := 3) (j := k) (A := Al) (len := l.length) (cap := Cl) 3 0 _ rfl (by kernel_rfl) (by kernel_rfl) (by kernel_rfl) (fun _ _ h => h) (by kernel_rfl) rfl rfl (by kernel_rfl) (by kernel_rfl) (by kernel_rfl) (by kernel_rfl) hlt hAq2 hq3.2 (by kernel_rfl) rfl ?_
 refine d9 [4] [15,11,0,3,5,7,8] 1 [(15,.v (.agg (bX x).toArray))] <| kX 5 (.bool (bz u x)) rfl (fun _ _ ww hA => co hA rfl (by kernel_rfl) (by kernel_rfl) (ez (by kernel_rfl) (ec u.ip u.port u.my x.ip x.port x.my ww))) ?_
 refine kZ <| kC (bz u x) (fun h4 => ?_) (fun h4 => ?_)
 have hfd := idxTup_eq hx (by rw [tupEq_comm]; exact h4) HK
 refine kQ <| aT [4] [(4,aI (k : Int))] <| kR ?_
 exact ⟨[iI (k : Int)],by kernel_rfl,fun w' hb hf => ⟨fP (show ((k : Int) : Int) = dG l u from by first | exact hfd.symm | exact hfn.symm),hb⟩⟩
 have hq : bz x u = false := by rw [tupEq_comm]; exact h4
 refine kK <| kG <| di 2 [0,3,7,8] [(8,aI (K6.wrap ((k : Int) + 1)))] <| cU [0,3,7,8] [(8,aI (K6.wrap ((k : Int) + 1)))] [(8,aI ((k : Int) + 1))] (by rw [show (K6.wrap ((k : Int) + 1)) = ((k : Int) + 1) from al (by omega) (by omega)]) (by kernel_rfl) ?_
 refine aW [0,3,7,8] [] ?_
 exact ⟨⟨(k + 1),⟨by omega,no_step (p := fun c : Tup => bz c u) hx hq HK⟩⟩,kF 1 0 [0,3,7,8],by show l.length - (k + 1) < l.length - k; omega⟩
 have h1p := of_decide_eq_false h1
 have hge : k = l.length := by simp at h1; omega
 have hfn := idxTup_no hge HK
 refine bH <| kQ <| aT [4] [(4,aI (-1))] <| kR ?_
 exact ⟨[iI (-1)],by kernel_rfl,fun w' hb hf => ⟨fP (show ((-1) : Int) = dG l u from by first | exact hfd.symm | exact hfn.symm),hb⟩⟩
theorem ysLimitsOk_c (l : Lim) (w : World)  : Calls Tryz.prog 36 #[.agg (bd l).toArray] w fun e w' => e = .returned (.bool (dS l)) ∧ Below w.heap.size w w' := by
 refine bZ (args := [.agg (bd l).toArray]) (fn := Tryz.f36) [] Tryz.func36 rfl Tryz.ntmps36 rfl (by simp) ?_
 refine kQ <| cm [1] ⟨[(1,.p 0 0)],[⟨43,bd l⟩],[],[]⟩ <| kS <| ba ⟨[(2,aB ((bA l.halves 1 64) && ((bA l.waiting 1 16) && ((bA l.conns 1 16) && (bA l.chal 0 1000)))))],[⟨43,bd l⟩],[],[]⟩ ?_ ?_
 refine kG <| dN 2 [1,4] [(1,.p 0 0),(4,aI l.halves)] 63 [iI l.halves,iI 1,iI 64] (some 5) rfl (c6 fun ww hf => e9 l.halves 1 64 ww ) ?_
 intro _
 refine dt 1 [1,6] [(1,.p 0 0),(6,aB (bA l.halves 1 64))] <| kP 6 (bA l.halves 1 64) (fun h1 => ?_) (fun h1 => ?_)
 have h1i := inB_tt.1 (show bA l.halves 1 64 = true from by simpa using h1)
 refine dN 2 [1,6,8] [(1,.p 0 0),(6,aB true),(8,aI l.waiting)] 63 [iI l.waiting,iI 1,iI 16] (some 9) rfl (c6 fun ww hf => e9 l.waiting 1 16 ww ) ?_
 intro _
 refine dt 2 [1,11] [(1,.p 0 0),(11,aB (bA l.waiting 1 16))] <| kP 11 (bA l.waiting 1 16) (fun h2 => ?_) (fun h2 => ?_)
 have h2i := inB_tt.1 (show bA l.waiting 1 16 = true from by simpa using h2)
 refine dN 2 [1,11,13] [(1,.p 0 0),(11,aB true),(13,aI l.conns)] 63 [iI l.conns,iI 1,iI 16] (some 14) rfl (c6 fun ww hf => e9 l.conns 1 16 ww ) ?_
 intro _
 refine dt 2 [1,16] [(1,.p 0 0),(16,aB (bA l.conns 1 16))] <| kP 16 (bA l.conns 1 16) (fun h3 => ?_) (fun h3 => ?_)
 have h3i := inB_tt.1 (show bA l.conns 1 16 = true from by simpa using h3)
 refine dN 2 [16,18] [(16,aB true),(18,aI l.chal)] 63 [iI l.chal,iI 0,iI 1000] (some 19) rfl (c6 fun ww hf => e9 l.chal 0 1000 ww ) ?_
 intro _
 refine aT [2] [(2,aB (bA l.chal 0 1000))] ?_
 show Wk _ _
 try rw [h1]
 try rw [h2]
 try rw [h3]
 exact kF 1 0 [2]
 have h3i := inB_ff.1 (show bA l.conns 1 16 = false from by simpa using h3)
 refine aT [2] [(2,aB false)] ?_
 show Wk _ _
 try rw [h1]
 try rw [h2]
 try rw [h3]
 exact kF 1 0 [2]
 have h2i := inB_ff.1 (show bA l.waiting 1 16 = false from by simpa using h2)
 refine aT [2] [(2,aB false)] ?_
 show Wk _ _
 try rw [h1]
 try rw [h2]
 exact kF 1 0 [2]
 have h1i := inB_ff.1 (show bA l.halves 1 64 = false from by simpa using h1)
 refine aT [2] [(2,aB false)] ?_
 show Wk _ _
 try rw [h1]
 exact kF 1 0 [2]
 refine kR ?_
 exact ⟨[.bool ((bA l.halves 1 64) && ((bA l.waiting 1 16) && ((bA l.conns 1 16) && (bA l.chal 0 1000))))],by kernel_rfl,fun w' hb hf => ⟨au (show ((bA l.halves 1 64) && ((bA l.waiting 1 16) && ((bA l.conns 1 16) && (bA l.chal 0 1000))) : Bool) = dS l from by first | rfl | (simp [dS, *]; done) | grind [dS]),hb⟩⟩
theorem yiLimitsOk_c (l : Lim) (w : World)  : Calls Tryz.prog 33 #[.agg (bd l).toArray] w fun e w' => e = .returned (.bool (dS l)) ∧ Below w.heap.size w w' := by
 refine bZ (args := [.agg (bd l).toArray]) (fn := Tryz.f33) [] Tryz.func33 rfl Tryz.ntmps33 rfl (by simp) ?_
 refine kQ <| cm [1] ⟨[(1,.p 0 0)],[⟨43,bd l⟩],[],[]⟩ <| kS <| ba ⟨[(2,aB ((bA l.halves 1 64) && ((bA l.waiting 1 16) && ((bA l.conns 1 16) && (bA l.chal 0 1000)))))],[⟨43,bd l⟩],[],[]⟩ ?_ ?_
 refine kG <| dN 2 [1,4] [(1,.p 0 0),(4,aI l.halves)] 58 [iI l.halves,iI 1,iI 64] (some 5) rfl (c6 fun ww hf => dc l.halves 1 64 ww ) ?_
 intro _
 refine dt 1 [1,6] [(1,.p 0 0),(6,aB (bA l.halves 1 64))] <| kP 6 (bA l.halves 1 64) (fun h1 => ?_) (fun h1 => ?_)
 have h1i := inB_tt.1 (show bA l.halves 1 64 = true from by simpa using h1)
 refine dN 2 [1,6,8] [(1,.p 0 0),(6,aB true),(8,aI l.waiting)] 58 [iI l.waiting,iI 1,iI 16] (some 9) rfl (c6 fun ww hf => dc l.waiting 1 16 ww ) ?_
 intro _
 refine dt 2 [1,11] [(1,.p 0 0),(11,aB (bA l.waiting 1 16))] <| kP 11 (bA l.waiting 1 16) (fun h2 => ?_) (fun h2 => ?_)
 have h2i := inB_tt.1 (show bA l.waiting 1 16 = true from by simpa using h2)
 refine dN 2 [1,11,13] [(1,.p 0 0),(11,aB true),(13,aI l.conns)] 58 [iI l.conns,iI 1,iI 16] (some 14) rfl (c6 fun ww hf => dc l.conns 1 16 ww ) ?_
 intro _
 refine dt 2 [1,16] [(1,.p 0 0),(16,aB (bA l.conns 1 16))] <| kP 16 (bA l.conns 1 16) (fun h3 => ?_) (fun h3 => ?_)
 have h3i := inB_tt.1 (show bA l.conns 1 16 = true from by simpa using h3)
 refine dN 2 [16,18] [(16,aB true),(18,aI l.chal)] 58 [iI l.chal,iI 0,iI 1000] (some 19) rfl (c6 fun ww hf => dc l.chal 0 1000 ww ) ?_
 intro _
 refine aT [2] [(2,aB (bA l.chal 0 1000))] ?_
 show Wk _ _
 try rw [h1]
 try rw [h2]
 try rw [h3]
 exact kF 1 0 [2]
 have h3i := inB_ff.1 (show bA l.conns 1 16 = false from by simpa using h3)
 refine aT [2] [(2,aB false)] ?_
 show Wk _ _
 try rw [h1]
 try rw [h2]
 try rw [h3]
 exact kF 1 0 [2]
 have h2i := inB_ff.1 (show bA l.waiting 1 16 = false from by simpa using h2)
 refine aT [2] [(2,aB false)] ?_
 show Wk _ _
 try rw [h1]
 try rw [h2]
 exact kF 1 0 [2]
 have h1i := inB_ff.1 (show bA l.halves 1 64 = false from by simpa using h1)
 refine aT [2] [(2,aB false)] ?_
 show Wk _ _
 try rw [h1]
 exact kF 1 0 [2]
 refine kR ?_
 exact ⟨[.bool ((bA l.halves 1 64) && ((bA l.waiting 1 16) && ((bA l.conns 1 16) && (bA l.chal 0 1000))))],by kernel_rfl,fun w' hb hf => ⟨au (show ((bA l.halves 1 64) && ((bA l.waiting 1 16) && ((bA l.conns 1 16) && (bA l.chal 0 1000))) : Bool) = dS l from by first | rfl | (simp [dS, *]; done) | grind [dS]),hb⟩⟩
theorem ysTableOk_c (t : Tab) (t_connsV : Value) (t_waitingV : Value) (l : Lim) (w : World) (hl_t_connsV : Sl w t_connsV 25 (t.conns.map aq)) (hh_t_connsV : ∀ x ∈ t.conns, Sl w x.2 2 (x.1.r.held.map pC)) (hl_t_waitingV : Sl w t_waitingV 3 (t.waiting.map a7)) (hfit : ∀ x ∈ t.conns, bW x.1) : Calls Tryz.prog 14 #[.agg (bk t t_connsV t_waitingV).toArray, .agg (bd l).toArray] w fun e w' => e = .returned (.bool (bp t l)) ∧ Below w.heap.size w w' := by
 obtain ⟨Atc,Ctc,hvtc⟩ := hl_t_connsV.form
 rw [List.length_map] at hvtc; subst hvtc
 have hntc := hl_t_connsV.len; rw [List.length_map] at hntc
 have hqtc := Sl.capLe hl_t_connsV
 obtain ⟨Atw,Ctw,hvtw⟩ := hl_t_waitingV.form
 rw [List.length_map] at hvtw; subst hvtw
 have hntw := hl_t_waitingV.len; rw [List.length_map] at hntw
 have hqtw := Sl.capLe hl_t_waitingV
 refine bZ (args := [.agg (bk t (.slice Atc t.conns.length Ctc) (.slice Atw t.waiting.length Ctw)).toArray,.agg (bd l).toArray]) (fn := Tryz.f14) [aJ (.slice Atc t.conns.length Ctc) 25 (t.conns.map aq),cL t.conns,aJ (.slice Atw t.waiting.length Ctw) 3 (t.waiting.map a7)] Tryz.func14 rfl Tryz.ntmps14 rfl (by simp only [List.mem_cons,List.not_mem_nil,or_false,forall_eq_or_imp,forall_eq]; exact ⟨⟨rfl,hl_t_connsV⟩,⟨rfl,hh_t_connsV⟩,⟨rfl,hl_t_waitingV⟩⟩) ?_
 refine kQ <| cm [2,3] ⟨[(2,.p 0 0),(3,.p 1 0)],[⟨27,bk t (.slice Atc t.conns.length Ctc) (.slice Atw t.waiting.length Ctw)⟩,⟨43,bd l⟩],[],[aJ (.slice Atc t.conns.length Ctc) 25 (t.conns.map aq),cL t.conns,aJ (.slice Atw t.waiting.length Ctw) 3 (t.waiting.map a7)]⟩ <| kS <| kQ <| dR 1 [2,3,7] [(7,.v (.agg (bd l).toArray))] 36 [.agg (bd l).toArray] (some 8) rfl (aA fun ww hf => ysLimitsOk_c l ww ) ?_
 intro _
 refine di 2 [2,3,10] [(10,aB (!(dS l)))] <| kP 10 (!(dS l)) (fun h1 => ?_) (fun h1 => ?_)
 have h1n := bS h1
 refine aW [2,25] [(25,aB true)] <| kT <| kQ <| aT [4] [(4,aB false)] ?_
 refine kR ?_
 exact ⟨[.bool false],by kernel_rfl,fun w' hb hf => ⟨au (show (false : Bool) = bp t l from by first | exact hno.symm | (exact (cg (by simpa using h1) (by omega) (by omega) hallC hgew HKw).symm) | (exact (cj (by simpa using h1)).symm) | (exact (ck (by omega)).symm) | (exact (cy (by omega)).symm)),hb⟩⟩
 have h1n := aF h1
 refine di 8 [2,3,18] [(18,aB (decide (((t.conns.length : Nat) : Int) > l.conns)))] <| kP 18 (decide (((t.conns.length : Nat) : Int) > l.conns)) (fun h2 => ?_) (fun h2 => ?_)
 have h2p := of_decide_eq_true h2
 refine aW [2,25] [(25,aB true)] <| kT <| kQ <| aT [4] [(4,aB false)] ?_
 refine kR ?_
 exact ⟨[.bool false],by kernel_rfl,fun w' hb hf => ⟨au (show (false : Bool) = bp t l from by first | exact hno.symm | (exact (cg (by simpa using h1) (by omega) (by omega) hallC hgew HKw).symm) | (exact (cj (by simpa using h1)).symm) | (exact (ck (by omega)).symm) | (exact (cy (by omega)).symm)),hb⟩⟩
 have h2p := of_decide_eq_false h2
 refine aW [2,25] [(25,aB (decide (((t.waiting.length : Nat) : Int) > l.waiting)))] <| kC (decide (((t.waiting.length : Nat) : Int) > l.waiting)) (fun h3 => ?_) (fun h3 => ?_)
 have h3p := of_decide_eq_true h3
 refine kQ <| aT [4] [(4,aB false)] <| kR ?_
 exact ⟨[.bool false],by kernel_rfl,fun w' hb hf => ⟨au (show (false : Bool) = bp t l from by first | exact hno.symm | (exact (cg (by simpa using h1) (by omega) (by omega) hallC hgew HKw).symm) | (exact (cj (by simpa using h1)).symm) | (exact (ck (by omega)).symm) | (exact (cy (by omega)).symm)),hb⟩⟩
 have h3p := of_decide_eq_false h3
 refine kK <| kS <| kQ <| aW [2,5] [(5,aI 0)] ?_
 refine ao <| bc (α := {x : Nat // (fun (k : Nat) => k ≤ t.conns.length ∧ ∀ (i : Nat) (x : CV),i < k → t.conns[i]? = some x → cOne t i x = true) x}) (fun x => (fun (k : Nat) => (⟨[(2,.p 0 0),(5,aI (k : Int))],[⟨27,bk t (.slice Atc t.conns.length Ctc) (.slice Atw t.waiting.length Ctw)⟩,⟨43,bd l⟩],[],[aJ (.slice Atc t.conns.length Ctc) 25 (t.conns.map aq),cL t.conns,aJ (.slice Atw t.waiting.length Ctw) 3 (t.waiting.map a7)]⟩ : St)) x.1) (fun x => t.conns.length - x.1) ⟨(0),⟨Nat.zero_le _,fun i x hi => by omega⟩⟩ (kF 2 0 [2,5]) ?_
 rintro ⟨k,hk,HK⟩
 try dsimp only
 try dsimp only at hk HK
 refine kS <| kQ <| aW [2,5,30] [(30,aB (decide ((k : Int) < ((t.conns.length : Nat) : Int))))] <| kC (decide ((k : Int) < ((t.conns.length : Nat) : Int))) (fun h4 => ?_) (fun h4 => ?_)
 have h4p := of_decide_eq_true h4
 have hlt : k < t.conns.length := by simpa using h4
 obtain ⟨x0,hx⟩ : ∃ x,t.conns[k]? = some x := ⟨_,List.getElem?_eq_getElem hlt⟩
 obtain ⟨x,xa,xc,rfl⟩ := eB (hh_t_connsV x0 (List.mem_of_getElem? hx))
 have hft_x : bW x := hfit _ (List.mem_of_getElem? hx)
 obtain ⟨hfs_x,hfr_x,hfh_x,hfp_x⟩ := hft_x
 refine kK <| kS <| ao <| kS <| d5 ?_
 refine cA (K := 25) (j := k) [iI x.t.ip,iI x.t.port,iI x.t.my,iI x.state,iI x.s.una,.string x.s.data,iI x.s.sent,.bool x.s.fin,.bool x.s.finSent,.bool x.s.done,iI x.r.next,.string x.r.data,.slice xa x.r.held.length xc,iI x.r.fin,.bool x.r.done,iI x.window,iI x.most,iI x.o.mss,iI x.o.scale,.bool x.o.sack,.bool x.o.stamp,iI x.o.val,iI x.o.echo,iI x.timer,iI x.tries] (aJ (.slice Atc t.conns.length Ctc) 25 (t.conns.map aq)) (fun _ _ h => h) (by simp) (fun w h => h) (fun b h => h) (by simp only [List.getElem?_map,hx]; rfl) (fun bq5 offq5 hAq5 => ?_)
 refine cA (K := 25) (j := k) [iI x.t.ip,iI x.t.port,iI x.t.my,iI x.state,iI x.s.una,.string x.s.data,iI x.s.sent,.bool x.s.fin,.bool x.s.finSent,.bool x.s.done,iI x.r.next,.string x.r.data,.slice xa x.r.held.length xc,iI x.r.fin,.bool x.r.done,iI x.window,iI x.most,iI x.o.mss,iI x.o.scale,.bool x.o.sack,.bool x.o.stamp,iI x.o.val,iI x.o.echo,iI x.timer,iI x.tries] (aJ (.slice Atc t.conns.length Ctc) 25 (t.conns.map aq)) (fun _ _ h => h) (by simp) (fun w h => h) (fun b h => h) (by simp only [List.getElem?_map,hx]; rfl) (fun bq6 offq6 hAq6 => ?_)
 refine ci [] (by kernel_rfl) (fun ρ σ hq7 => ?_)
 refine d9 [0,1,2] [35,34,2,5] 16 [(35,aI (k : Int)),(34,.v (.slice Atc t.conns.length Ctc))] <| cX (kd := .i64) (T := 24) (e := 41) (K := 25) (j := k) (A := Atc) (len := t.conns.length) (cap := Ctc) 3 0 _ rfl (by kernel_rfl) (by kernel_rfl) (by kernel_rfl) (fun _ _ h => h) (by kernel_rfl) rfl rfl (by kernel_rfl) (by kernel_rfl) (by kernel_rfl) (by kernel_rfl) hlt hAq5 hq7.1.2 (by kernel_rfl) rfl ?_
 refine d9 [4] [37,2,5] 14 [(37,.v (.agg (a6 x (cS xa x xc)).toArray))] <| kA [5] <| du 5 37 [.agg (a6 x (cS xa x xc)).toArray] (some 38) rfl (aA fun ww hf => e8 x (cS xa x xc) ww ((hf _ m1) (x,.slice xa x.r.held.length xc) (List.mem_of_getElem? hx)) (by assumption) (by omega)) ?_
 intro _
 refine d9 [6,7] [40,2,5] 11 [(40,aB (!(aX x)))] <| kY 40 (!(aX x)) (fun h8 => ?_) (fun h8 => ?_)
 have hno := tableOk_c (l := l) hx (cOne_no1 (by simpa using h8))
 refine d9 [8,9,10,11,16] [49,44,43,41,40,2,5] 6 [(49,.v undef),(44,.v undef),(43,.v undef),(41,.v undef),(40,aB true)] <| xe_skip 12 ⟨[(45,.v undef),(49,.v undef),(44,.v undef),(43,.v undef),(41,.v undef),(40,aB true),(2,.p 0 0),(5,aI (k : Int))],[⟨27,bk t (.slice Atc t.conns.length Ctc) (.slice Atw t.waiting.length Ctw)⟩,⟨43,bd l⟩],[[iI x.t.ip,iI x.t.port,iI x.t.my,iI x.state,iI x.s.una,.string x.s.data,iI x.s.sent,.bool x.s.fin,.bool x.s.finSent,.bool x.s.done,iI x.r.next,.string x.r.data,.slice xa x.r.held.length xc,iI x.r.fin,.bool x.r.done,iI x.window,iI x.most,iI x.o.mss,iI x.o.scale,.bool x.o.sack,.bool x.o.stamp,iI x.o.val,iI x.o.echo,iI x.timer,iI x.tries],[iI x.t.ip,iI x.t.port,iI x.t.my,iI x.state,iI x.s.una,.string x.s.data,iI x.s.sent,.bool x.s.fin,.bool x.s.finSent,.bool x.s.done,iI x.r.next,.string x.r.data,.slice xa x.r.held.length xc,iI x.r.fin,.bool x.r.done,iI x.window,iI x.most,iI x.o.mss,iI x.o.scale,.bool x.o.sack,.bool x.o.stamp,iI x.o.val,iI x.o.echo,iI x.timer,iI x.tries]],[aJ (.slice Atc t.conns.length Ctc) 25 (t.conns.map aq),cL t.conns,aJ (.slice Atw t.waiting.length Ctw) 3 (t.waiting.map a7)]⟩ rfl (by kernel_rfl) (by kernel_rfl) (by kernel_rfl) (fun _ _ h => h) (by kernel_rfl) rfl (by kernel_rfl) ?_
 refine cJ [13,14,15,17,18] [51,2,5] 0 [(51,aB true),(2,.p 0 0),(5,aI (k : Int))] <| kZ <| kT <| kQ <| aT [4] [(4,aB false)] ?_
 refine kR ?_
 exact ⟨[.bool false],by kernel_rfl,fun w' hb hf => ⟨au (show (false : Bool) = bp t l from by first | exact hno.symm | (exact (cg (by simpa using h1) (by omega) (by omega) hallC hgew HKw).symm) | (exact (cj (by simpa using h1)).symm) | (exact (ck (by omega)).symm) | (exact (cy (by omega)).symm)),hb⟩⟩
 have hy1 : aX x = true := by simpa using h8
 refine d9 [8,9,10,11,16] [49,44,43,41,40,2,5] 6 [(49,aI (k : Int)),(44,aI (k : Int)),(43,.v (.slice Atc t.conns.length Ctc)),(41,.v (.agg (bk t (.slice Atc t.conns.length Ctc) (.slice Atw t.waiting.length Ctw)).toArray)),(40,aB false)] <| cX (kd := .i64) (T := 24) (e := 41) (K := 25) (j := k) (A := Atc) (len := t.conns.length) (cap := Ctc) 12 1 _ rfl (by kernel_rfl) (by kernel_rfl) (by kernel_rfl) (fun _ _ h => h) (by kernel_rfl) rfl rfl (by kernel_rfl) (by kernel_rfl) (by kernel_rfl) (by kernel_rfl) hlt hAq6 hq7.2 (by kernel_rfl) rfl ?_
 refine cJ [13,14] [47,49,41,40,2,5] 3 [(47,.v (.agg (bX x.t).toArray)),(49,aI (k : Int)),(41,.v (.agg (bk t (.slice Atc t.conns.length Ctc) (.slice Atw t.waiting.length Ctw)).toArray)),(40,aB false),(2,.p 0 0),(5,aI (k : Int))] <| kA [15] <| du 15 29 [.agg (bk t (.slice Atc t.conns.length Ctc) (.slice Atw t.waiting.length Ctw)).toArray,.agg (bX x.t).toArray] (some 48) rfl (aA fun ww hf => ysFindConn_c t (.slice Atc t.conns.length Ctc) (.slice Atw t.waiting.length Ctw) x.t ww (hf _ m0) (hf _ m1) (hf _ m2) ) ?_
 intro _
 refine d9 [17,18] [51,2,5] 0 [(51,aB ((bv t x.t) != (k : Int)))] <| kZ <| kC ((bv t x.t) != (k : Int)) (fun h9 => ?_) (fun h9 => ?_)
 have h9p := neT h9
 have hno := tableOk_c (l := l) hx (cOne_no2 (by simpa using h9))
 refine kQ <| aT [4] [(4,aB false)] <| kR ?_
 exact ⟨[.bool false],by kernel_rfl,fun w' hb hf => ⟨au (show (false : Bool) = bp t l from by first | exact hno.symm | (exact (cg (by simpa using h1) (by omega) (by omega) hallC hgew HKw).symm) | (exact (cj (by simpa using h1)).symm) | (exact (ck (by omega)).symm) | (exact (cy (by omega)).symm)),hb⟩⟩
 have h9p := neF h9
 have hy2 : bv t x.t = (k : Int) := by simpa using h9
 refine kK <| kG <| di 3 [2,5] [(5,aI (K6.wrap ((k : Int) + 1)))] <| cU [2,5] [(5,aI (K6.wrap ((k : Int) + 1)))] [(5,aI ((k : Int) + 1))] (by rw [show (K6.wrap ((k : Int) + 1)) = ((k : Int) + 1) from al (by omega) (by omega)]) (by kernel_rfl) ?_
 refine aW [2,5] [] ?_
 exact ⟨⟨(k + 1),⟨by omega,all_step (p := cOne t) hx (cOne_yes hy1 hy2) HK⟩⟩,kF 2 0 [2,5],by show t.conns.length - (k + 1) < t.conns.length - k; omega⟩
 have h4p := of_decide_eq_false h4
 have hge : k = t.conns.length := by simp at h4; omega
 have hallC := allI_all hge HK
 refine bH <| kS <| kQ <| aW [2,6] [(6,aI 0)] ?_
 refine ao <| bc (α := {x : Nat // (fun (kw : Nat) => kw ≤ t.waiting.length ∧ ∀ (i : Nat) (x : Tup),i < kw → t.waiting[i]? = some x → wOne t i x = true) x}) (fun x => (fun (kw : Nat) => (⟨[(2,.p 0 0),(6,aI (kw : Int))],[⟨27,bk t (.slice Atc t.conns.length Ctc) (.slice Atw t.waiting.length Ctw)⟩,⟨43,bd l⟩],[],[aJ (.slice Atc t.conns.length Ctc) 25 (t.conns.map aq),cL t.conns,aJ (.slice Atw t.waiting.length Ctw) 3 (t.waiting.map a7)]⟩ : St)) x.1) (fun x => t.waiting.length - x.1) ⟨(0),⟨Nat.zero_le _,fun i x hi => by omega⟩⟩ (kF 2 0 [2,6]) ?_
 rintro ⟨kw,hkw,HKw⟩
 try dsimp only
 try dsimp only at hkw HKw
 refine kS <| kQ <| aW [2,6,56] [(56,aB (decide ((kw : Int) < ((t.waiting.length : Nat) : Int))))] <| kC (decide ((kw : Int) < ((t.waiting.length : Nat) : Int))) (fun h10 => ?_) (fun h10 => ?_)
 have h10p := of_decide_eq_true h10
 have hltw : kw < t.waiting.length := by simpa using h10
 obtain ⟨xw,hxw⟩ : ∃ x,t.waiting[kw]? = some x := ⟨_,List.getElem?_eq_getElem hltw⟩
 have hwp := wait_pre hxw
 refine kK <| kS <| ao <| kS <| d5 ?_
 refine cA (K := 3) (j := kw) [iI xw.ip,iI xw.port,iI xw.my] (aJ (.slice Atw t.waiting.length Ctw) 3 (t.waiting.map a7)) (fun _ _ h => h) (by simp) (fun w h => h) (fun b h => h) (by simp only [List.getElem?_map,hxw]; rfl) (fun bq11 offq11 hAq11 => ?_)
 refine cA (K := 3) (j := kw) [iI xw.ip,iI xw.port,iI xw.my] (aJ (.slice Atw t.waiting.length Ctw) 3 (t.waiting.map a7)) (fun _ _ h => h) (by simp) (fun w h => h) (fun b h => h) (by simp only [List.getElem?_map,hxw]; rfl) (fun bq12 offq12 hAq12 => ?_)
 refine ci [] (by kernel_rfl) (fun ρ σ hq13 => ?_)
 refine d9 [0,1,2,4,5,6] [65,64,61,60,2,6] 14 [(65,aI (kw : Int)),(64,.v (.slice Atw t.waiting.length Ctw)),(61,aI (kw : Int)),(60,.v (.slice Atw t.waiting.length Ctw))] <| kX 3 (.slice (if Ctw = 0 then Atw else Atw.map (·.add (0 * 3))) (kw - 0) (Ctw - 0)) rfl (fun _ _ ww hA => act_slV0 (e := 32) kw hA rfl (by kernel_rfl) (by kernel_rfl) rfl rfl rfl (by omega) ww) ?_
 refine cX (kd := .i64) (T := 25) (e := 32) (K := 3) (j := kw) (A := Atw) (len := t.waiting.length) (cap := Ctw) 7 0 _ rfl (by kernel_rfl) (by kernel_rfl) (by kernel_rfl) (fun _ _ h => h) (by kernel_rfl) rfl rfl (by kernel_rfl) (by kernel_rfl) (by kernel_rfl) (by kernel_rfl) hltw hAq11 hq13.1.2 (by kernel_rfl) rfl ?_
 refine d9 [8] [67,62,2,6] 11 [(67,.v (.agg (bX xw).toArray)),(62,.v (.slice (if Ctw = 0 then Atw else Atw.map (·.add (0 * 3))) (kw - 0) (Ctw - 0)))] <| kA [9] <| du 9 27 [.slice (if Ctw = 0 then Atw else Atw.map (·.add (0 * 3))) (kw - 0) (Ctw - 0),.agg (bX xw).toArray] (some 68) rfl (aA fun ww hf => yl25Waits_c ((t.waiting.drop 0).take (kw - 0)) (.slice (if Ctw = 0 then Atw else Atw.map (·.add (0 * 3))) (kw - 0) (Ctw - 0)) xw ww (Sl.partM (hf _ m2) 0 kw (by omega) (by omega)) ) ?_
 intro _
 refine cJ [10] [69,2,6] 9 [(69,aB (fv ((t.waiting.drop 0).take (kw - 0)) xw)),(2,.p 0 0),(6,aI (kw : Int))] <| kY 69 (fv ((t.waiting.drop 0).take (kw - 0)) xw) (fun h14 => ?_) (fun h14 => ?_)
 have hno := tableOk_w (l := l) hxw (wOne_no2 (by have e := hwp; rw [h14] at e; simpa using e))
 refine d9 [11,12,13,14] [73,72,70,69,2,6] 5 [(73,.v undef),(72,.v undef),(70,.v undef),(69,aB true)] <| xe_skip 15 ⟨[(74,.v undef),(73,.v undef),(72,.v undef),(70,.v undef),(69,aB true),(2,.p 0 0),(6,aI (kw : Int))],[⟨27,bk t (.slice Atc t.conns.length Ctc) (.slice Atw t.waiting.length Ctw)⟩,⟨43,bd l⟩],[[iI xw.ip,iI xw.port,iI xw.my],[iI xw.ip,iI xw.port,iI xw.my]],[aJ (.slice Atc t.conns.length Ctc) 25 (t.conns.map aq),cL t.conns,aJ (.slice Atw t.waiting.length Ctw) 3 (t.waiting.map a7)]⟩ rfl (by kernel_rfl) (by kernel_rfl) (by kernel_rfl) (fun _ _ h => h) (by kernel_rfl) rfl (by kernel_rfl) ?_
 refine d9 [16,17,18,19] [78,2,6] 0 [(78,aB true)] <| kZ <| kT <| kQ <| aT [4] [(4,aB false)] ?_
 refine kR ?_
 exact ⟨[.bool false],by kernel_rfl,fun w' hb hf => ⟨au (show (false : Bool) = bp t l from by first | exact hno.symm | (exact (cg (by simpa using h1) (by omega) (by omega) hallC hgew HKw).symm) | (exact (cj (by simpa using h1)).symm) | (exact (ck (by omega)).symm) | (exact (cy (by omega)).symm)),hb⟩⟩
 have hy2 : dG t.waiting xw = (kw : Int) := by have e := hwp; rw [h14] at e; simpa using e
 refine d9 [11,12,13,14] [73,72,70,69,2,6] 5 [(73,aI (kw : Int)),(72,.v (.slice Atw t.waiting.length Ctw)),(70,.v (.agg (bk t (.slice Atc t.conns.length Ctc) (.slice Atw t.waiting.length Ctw)).toArray)),(69,aB false)] <| cX (kd := .i64) (T := 25) (e := 32) (K := 3) (j := kw) (A := Atw) (len := t.waiting.length) (cap := Ctw) 15 1 _ rfl (by kernel_rfl) (by kernel_rfl) (by kernel_rfl) (fun _ _ h => h) (by kernel_rfl) rfl rfl (by kernel_rfl) (by kernel_rfl) (by kernel_rfl) (by kernel_rfl) hltw hAq12 hq13.2 (by kernel_rfl) rfl ?_
 refine d9 [16] [75,70,69,2,6] 3 [(75,.v (.agg (bX xw).toArray))] <| kA [17] <| du 17 29 [.agg (bk t (.slice Atc t.conns.length Ctc) (.slice Atw t.waiting.length Ctw)).toArray,.agg (bX xw).toArray] (some 76) rfl (aA fun ww hf => ysFindConn_c t (.slice Atc t.conns.length Ctc) (.slice Atw t.waiting.length Ctw) xw ww (hf _ m0) (hf _ m1) (hf _ m2) ) ?_
 intro _
 refine d9 [18,19] [78,2,6] 0 [(78,aB (decide ((bv t xw) < 0)))] <| kZ <| kC (decide ((bv t xw) < 0)) (fun h15 => ?_) (fun h15 => ?_)
 have h15p := of_decide_eq_true h15
 have hno := tableOk_w (l := l) hxw (wOne_no1 (by simpa using h15))
 refine kQ <| aT [4] [(4,aB false)] <| kR ?_
 exact ⟨[.bool false],by kernel_rfl,fun w' hb hf => ⟨au (show (false : Bool) = bp t l from by first | exact hno.symm | (exact (cg (by simpa using h1) (by omega) (by omega) hallC hgew HKw).symm) | (exact (cj (by simpa using h1)).symm) | (exact (ck (by omega)).symm) | (exact (cy (by omega)).symm)),hb⟩⟩
 have h15p := of_decide_eq_false h15
 have hy1 : ¬ bv t xw < 0 := by simpa using h15
 refine kK <| kG <| di 3 [2,6] [(6,aI (K6.wrap ((kw : Int) + 1)))] <| cU [2,6] [(6,aI (K6.wrap ((kw : Int) + 1)))] [(6,aI ((kw : Int) + 1))] (by rw [show (K6.wrap ((kw : Int) + 1)) = ((kw : Int) + 1) from al (by omega) (by omega)]) (by kernel_rfl) ?_
 refine aW [2,6] [] ?_
 exact ⟨⟨(kw + 1),⟨by omega,all_step (p := wOne t) hxw (wOne_yes hy1 hy2) HKw⟩⟩,kF 2 0 [2,6],by show t.waiting.length - (kw + 1) < t.waiting.length - kw; omega⟩
 have h10p := of_decide_eq_false h10
 have hgew : kw = t.waiting.length := by simp at h10; omega
 refine bH <| kQ <| aT [4] [(4,aB true)] <| kR ?_
 exact ⟨[.bool true],by kernel_rfl,fun w' hb hf => ⟨au (show (true : Bool) = bp t l from by first | exact hno.symm | (exact (cg (by simpa using h1) (by omega) (by omega) hallC hgew HKw).symm) | (exact (cj (by simpa using h1)).symm) | (exact (ck (by omega)).symm) | (exact (cy (by omega)).symm)),hb⟩⟩
theorem yiTableOk_c (t : Tab) (t_connsV : Value) (t_waitingV : Value) (l : Lim) (w : World) (hl_t_connsV : Sl w t_connsV 25 (t.conns.map aq)) (hh_t_connsV : ∀ x ∈ t.conns, Sl w x.2 2 (x.1.r.held.map pC)) (hl_t_waitingV : Sl w t_waitingV 3 (t.waiting.map a7)) (hfit : ∀ x ∈ t.conns, bW x.1) : Calls Tryz.prog 13 #[.agg (bk t t_connsV t_waitingV).toArray, .agg (bd l).toArray] w fun e w' => e = .returned (.bool (bp t l)) ∧ Below w.heap.size w w' := by
 obtain ⟨Atc,Ctc,hvtc⟩ := hl_t_connsV.form
 rw [List.length_map] at hvtc; subst hvtc
 have hntc := hl_t_connsV.len; rw [List.length_map] at hntc
 have hqtc := Sl.capLe hl_t_connsV
 obtain ⟨Atw,Ctw,hvtw⟩ := hl_t_waitingV.form
 rw [List.length_map] at hvtw; subst hvtw
 have hntw := hl_t_waitingV.len; rw [List.length_map] at hntw
 have hqtw := Sl.capLe hl_t_waitingV
 refine bZ (args := [.agg (bk t (.slice Atc t.conns.length Ctc) (.slice Atw t.waiting.length Ctw)).toArray,.agg (bd l).toArray]) (fn := Tryz.f13) [aJ (.slice Atc t.conns.length Ctc) 25 (t.conns.map aq),cL t.conns,aJ (.slice Atw t.waiting.length Ctw) 3 (t.waiting.map a7)] Tryz.func13 rfl Tryz.ntmps13 rfl (by simp only [List.mem_cons,List.not_mem_nil,or_false,forall_eq_or_imp,forall_eq]; exact ⟨⟨rfl,hl_t_connsV⟩,⟨rfl,hh_t_connsV⟩,⟨rfl,hl_t_waitingV⟩⟩) ?_
 refine kQ <| cm [2,3] ⟨[(2,.p 0 0),(3,.p 1 0)],[⟨27,bk t (.slice Atc t.conns.length Ctc) (.slice Atw t.waiting.length Ctw)⟩,⟨43,bd l⟩],[],[aJ (.slice Atc t.conns.length Ctc) 25 (t.conns.map aq),cL t.conns,aJ (.slice Atw t.waiting.length Ctw) 3 (t.waiting.map a7)]⟩ <| kS <| kQ <| dR 1 [2,3,9] [(9,.v (.agg (bd l).toArray))] 33 [.agg (bd l).toArray] (some 10) rfl (aA fun ww hf => yiLimitsOk_c l ww ) ?_
 intro _
 refine di 2 [2,3,12] [(12,aB (!(dS l)))] <| kP 12 (!(dS l)) (fun h1 => ?_) (fun h1 => ?_)
 have h1n := bS h1
 refine aW [2,27] [(27,aB true)] <| kT <| kQ <| aT [4] [(4,aB false)] ?_
 refine kR ?_
 exact ⟨[.bool false],by kernel_rfl,fun w' hb hf => ⟨au (show (false : Bool) = bp t l from by first | exact hno.symm | (exact (cg (by simpa using h1) (by omega) (by omega) hallC hgew HKw).symm) | (exact (cj (by simpa using h1)).symm) | (exact (ck (by omega)).symm) | (exact (cy (by omega)).symm)),hb⟩⟩
 have h1n := aF h1
 refine di 8 [2,3,20] [(20,aB (decide (((t.conns.length : Nat) : Int) > l.conns)))] <| kP 20 (decide (((t.conns.length : Nat) : Int) > l.conns)) (fun h2 => ?_) (fun h2 => ?_)
 have h2p := of_decide_eq_true h2
 refine aW [2,27] [(27,aB true)] <| kT <| kQ <| aT [4] [(4,aB false)] ?_
 refine kR ?_
 exact ⟨[.bool false],by kernel_rfl,fun w' hb hf => ⟨au (show (false : Bool) = bp t l from by first | exact hno.symm | (exact (cg (by simpa using h1) (by omega) (by omega) hallC hgew HKw).symm) | (exact (cj (by simpa using h1)).symm) | (exact (ck (by omega)).symm) | (exact (cy (by omega)).symm)),hb⟩⟩
 have h2p := of_decide_eq_false h2
 refine aW [2,27] [(27,aB (decide (((t.waiting.length : Nat) : Int) > l.waiting)))] <| kC (decide (((t.waiting.length : Nat) : Int) > l.waiting)) (fun h3 => ?_) (fun h3 => ?_)
 have h3p := of_decide_eq_true h3
 refine kQ <| aT [4] [(4,aB false)] <| kR ?_
 exact ⟨[.bool false],by kernel_rfl,fun w' hb hf => ⟨au (show (false : Bool) = bp t l from by first | exact hno.symm | (exact (cg (by simpa using h1) (by omega) (by omega) hallC hgew HKw).symm) | (exact (cj (by simpa using h1)).symm) | (exact (ck (by omega)).symm) | (exact (cy (by omega)).symm)),hb⟩⟩
 have h3p := of_decide_eq_false h3
 refine kK <| kS <| kQ <| aW [2,29,30,31] [(29,.v (.slice Atc t.conns.length Ctc)),(30,aI ((t.conns.length : Nat) : Int)),(31,aI 0)] ?_
 refine ao <| bc (α := {x : Nat // (fun (k : Nat) => k ≤ t.conns.length ∧ ∀ (i : Nat) (x : CV),i < k → t.conns[i]? = some x → cOne t i x = true) x}) (fun x => (fun (k : Nat) => (⟨[(2,.p 0 0),(29,.v (.slice Atc t.conns.length Ctc)),(30,aI ((t.conns.length : Nat) : Int)),(31,aI (k : Int))],[⟨27,bk t (.slice Atc t.conns.length Ctc) (.slice Atw t.waiting.length Ctw)⟩,⟨43,bd l⟩],[],[aJ (.slice Atc t.conns.length Ctc) 25 (t.conns.map aq),cL t.conns,aJ (.slice Atw t.waiting.length Ctw) 3 (t.waiting.map a7)]⟩ : St)) x.1) (fun x => t.conns.length - x.1) ⟨(0),⟨Nat.zero_le _,fun i x hi => by omega⟩⟩ (kF 2 0 [2,29,30,31]) ?_
 rintro ⟨k,hk,HK⟩
 try dsimp only
 try dsimp only at hk HK
 refine kQ <| aW [2,29,30,31,32] [(32,aB (decide ((k : Int) < ((t.conns.length : Nat) : Int))))] <| kS <| kC (decide ((k : Int) < ((t.conns.length : Nat) : Int))) (fun h4 => ?_) (fun h4 => ?_)
 have h4p := of_decide_eq_true h4
 have hlt : k < t.conns.length := by simpa using h4
 obtain ⟨x0,hx⟩ : ∃ x,t.conns[k]? = some x := ⟨_,List.getElem?_eq_getElem hlt⟩
 obtain ⟨x,xa,xc,rfl⟩ := eB (hh_t_connsV x0 (List.mem_of_getElem? hx))
 have hft_x : bW x := hfit _ (List.mem_of_getElem? hx)
 obtain ⟨hfs_x,hfr_x,hfh_x,hfp_x⟩ := hft_x
 refine kK <| kS <| ao <| kQ <| de (kd := .i64) (T := 24) (e := 41) (K := 25) 1 [2,29,30,31,33] [(33,aI (k : Int))] k [iI x.t.ip,iI x.t.port,iI x.t.my,iI x.state,iI x.s.una,.string x.s.data,iI x.s.sent,.bool x.s.fin,.bool x.s.finSent,.bool x.s.done,iI x.r.next,.string x.r.data,.slice xa x.r.held.length xc,iI x.r.fin,.bool x.r.done,iI x.window,iI x.most,iI x.o.mss,iI x.o.scale,.bool x.o.sack,.bool x.o.stamp,iI x.o.val,iI x.o.echo,iI x.timer,iI x.tries] (aJ (.slice Atc t.conns.length Ctc) 25 (t.conns.map aq)) (by kernel_rfl) rfl (by kernel_rfl) rfl rfl (by kernel_rfl) (by kernel_rfl) (by kernel_rfl) (by kernel_rfl) hlt (by simp) (fun w h => h) (fun b h => h) (by simp only [List.getElem?_map,hx]; rfl) ?_
 refine gk [2,5,6,29,30,31] [(5,aI (k : Int)),(6,.p 2 0)] [⟨41,a6 x (cS xa x xc)⟩] <| kQ <| dR 1 [2,5,6,29,30,31,36] [(36,.v (.agg (a6 x (cS xa x xc)).toArray))] 34 [.agg (a6 x (cS xa x xc)).toArray] (some 37) rfl (aA fun ww hf => yiConnOk_c x (cS xa x xc) ww ((hf _ m1) (x,.slice xa x.r.held.length xc) (List.mem_of_getElem? hx)) (by assumption) (by omega)) ?_
 intro _
 refine di 2 [2,5,6,29,30,31,39] [(39,aB (!(aX x)))] <| kP 39 (!(aX x)) (fun h5 => ?_) (fun h5 => ?_)
 have hno := tableOk_c (l := l) hx (cOne_no1 (by simpa using h5))
 refine aT [2,29,30,31,46] [(2,.p 0 0),(29,.v (.slice Atc t.conns.length Ctc)),(30,aI ((t.conns.length : Nat) : Int)),(31,aI (k : Int)),(46,aB true)] <| kT <| kQ <| aT [4] [(4,aB false)] ?_
 refine kR ?_
 exact ⟨[.bool false],by kernel_rfl,fun w' hb hf => ⟨au (show (false : Bool) = bp t l from by first | exact hno.symm | (exact (cg (by simpa using h1) (by omega) (by omega) hallC hgew HKw).symm) | (exact (cj (by simpa using h1)).symm) | (exact (ck (by omega)).symm) | (exact (cy (by omega)).symm)),hb⟩⟩
 have hy1 : aX x = true := by simpa using h5
 refine dN 3 [2,5,29,30,31,39,40,42] [(2,.p 0 0),(5,aI (k : Int)),(29,.v (.slice Atc t.conns.length Ctc)),(30,aI ((t.conns.length : Nat) : Int)),(31,aI (k : Int)),(39,aB false),(40,.v (.agg (bk t (.slice Atc t.conns.length Ctc) (.slice Atw t.waiting.length Ctw)).toArray)),(42,.v (.agg (bX x.t).toArray))] 15 [.agg (bk t (.slice Atc t.conns.length Ctc) (.slice Atw t.waiting.length Ctw)).toArray,.agg (bX x.t).toArray] (some 43) rfl (aA fun ww hf => gI t (.slice Atc t.conns.length Ctc) (.slice Atw t.waiting.length Ctw) x.t ww (hf _ m0) (hf _ m1) (hf _ m2) ) ?_
 intro _
 refine aW [2,29,30,31,46] [(46,aB ((bv t x.t) != (k : Int)))] <| kC ((bv t x.t) != (k : Int)) (fun h6 => ?_) (fun h6 => ?_)
 have h6p := neT h6
 have hno := tableOk_c (l := l) hx (cOne_no2 (by simpa using h6))
 refine kQ <| aT [4] [(4,aB false)] <| kR ?_
 exact ⟨[.bool false],by kernel_rfl,fun w' hb hf => ⟨au (show (false : Bool) = bp t l from by first | exact hno.symm | (exact (cg (by simpa using h1) (by omega) (by omega) hallC hgew HKw).symm) | (exact (cj (by simpa using h1)).symm) | (exact (ck (by omega)).symm) | (exact (cy (by omega)).symm)),hb⟩⟩
 have h6p := neF h6
 have hy2 : bv t x.t = (k : Int) := by simpa using h6
 refine kK <| kG <| di 2 [2,29,30,31] [(31,aI (K6.wrap ((k : Int) + 1)))] <| cU [2,29,30,31] [(31,aI (K6.wrap ((k : Int) + 1)))] [(31,aI ((k : Int) + 1))] (by rw [show (K6.wrap ((k : Int) + 1)) = ((k : Int) + 1) from al (by omega) (by omega)]) (by kernel_rfl) ?_
 refine aW [2,29,30,31] [] ?_
 exact ⟨⟨(k + 1),⟨by omega,all_step (p := cOne t) hx (cOne_yes hy1 hy2) HK⟩⟩,kF 2 0 [2,29,30,31],by show t.conns.length - (k + 1) < t.conns.length - k; omega⟩
 have h4p := of_decide_eq_false h4
 have hge : k = t.conns.length := by simp at h4; omega
 have hallC := allI_all hge HK
 refine bH <| kS <| kQ <| aW [2,49,50,51] [(49,.v (.slice Atw t.waiting.length Ctw)),(50,aI ((t.waiting.length : Nat) : Int)),(51,aI 0)] ?_
 refine ao <| bc (α := {x : Nat // (fun (kw : Nat) => kw ≤ t.waiting.length ∧ ∀ (i : Nat) (x : Tup),i < kw → t.waiting[i]? = some x → wOne t i x = true) x}) (fun x => (fun (kw : Nat) => (⟨[(2,.p 0 0),(49,.v (.slice Atw t.waiting.length Ctw)),(50,aI ((t.waiting.length : Nat) : Int)),(51,aI (kw : Int))],[⟨27,bk t (.slice Atc t.conns.length Ctc) (.slice Atw t.waiting.length Ctw)⟩,⟨43,bd l⟩],[],[aJ (.slice Atc t.conns.length Ctc) 25 (t.conns.map aq),cL t.conns,aJ (.slice Atw t.waiting.length Ctw) 3 (t.waiting.map a7)]⟩ : St)) x.1) (fun x => t.waiting.length - x.1) ⟨(0),⟨Nat.zero_le _,fun i x hi => by omega⟩⟩ (kF 2 0 [2,49,50,51]) ?_
 rintro ⟨kw,hkw,HKw⟩
 try dsimp only
 try dsimp only at hkw HKw
 refine kQ <| aW [2,49,50,51,52] [(52,aB (decide ((kw : Int) < ((t.waiting.length : Nat) : Int))))] <| kS <| kC (decide ((kw : Int) < ((t.waiting.length : Nat) : Int))) (fun h7 => ?_) (fun h7 => ?_)
 have h7p := of_decide_eq_true h7
 have hltw : kw < t.waiting.length := by simpa using h7
 obtain ⟨xw,hxw⟩ : ∃ x,t.waiting[kw]? = some x := ⟨_,List.getElem?_eq_getElem hltw⟩
 refine kK <| kS <| ao <| kQ <| de (kd := .i64) (T := 25) (e := 32) (K := 3) 1 [2,49,50,51,53] [(53,aI (kw : Int))] kw [iI xw.ip,iI xw.port,iI xw.my] (aJ (.slice Atw t.waiting.length Ctw) 3 (t.waiting.map a7)) (by kernel_rfl) rfl (by kernel_rfl) rfl rfl (by kernel_rfl) (by kernel_rfl) (by kernel_rfl) (by kernel_rfl) hltw (by simp) (fun w h => h) (fun b h => h) (by simp only [List.getElem?_map,hxw]; rfl) ?_
 refine gk [2,7,8,49,50,51] [(7,aI (kw : Int)),(8,.p 2 0)] [⟨32,bX xw⟩] <| kQ <| dN 2 [2,7,8,49,50,51,56,57] [(2,.p 0 0),(7,aI (kw : Int)),(8,.p 2 0),(49,.v (.slice Atw t.waiting.length Ctw)),(50,aI ((t.waiting.length : Nat) : Int)),(51,aI (kw : Int)),(56,.v (.agg (bk t (.slice Atc t.conns.length Ctc) (.slice Atw t.waiting.length Ctw)).toArray)),(57,.v (.agg (bX xw).toArray))] 15 [.agg (bk t (.slice Atc t.conns.length Ctc) (.slice Atw t.waiting.length Ctw)).toArray,.agg (bX xw).toArray] (some 58) rfl (aA fun ww hf => gI t (.slice Atc t.conns.length Ctc) (.slice Atw t.waiting.length Ctw) xw ww (hf _ m0) (hf _ m1) (hf _ m2) ) ?_
 intro _
 refine di 2 [2,7,8,49,50,51,60] [(60,aB (decide ((bv t xw) < 0)))] <| kP 60 (decide ((bv t xw) < 0)) (fun h8 => ?_) (fun h8 => ?_)
 have h8p := of_decide_eq_true h8
 have hno := tableOk_w (l := l) hxw (wOne_no1 (by simpa using h8))
 refine aW [2,49,50,51,67] [(67,aB true)] <| kT <| kQ <| aT [4] [(4,aB false)] ?_
 refine kR ?_
 exact ⟨[.bool false],by kernel_rfl,fun w' hb hf => ⟨au (show (false : Bool) = bp t l from by first | exact hno.symm | (exact (cg (by simpa using h1) (by omega) (by omega) hallC hgew HKw).symm) | (exact (cj (by simpa using h1)).symm) | (exact (ck (by omega)).symm) | (exact (cy (by omega)).symm)),hb⟩⟩
 have h8p := of_decide_eq_false h8
 have hy1 : ¬ bv t xw < 0 := by simpa using h8
 refine dR 3 [2,7,49,50,51,60,62,63] [(60,aB false),(62,.v (.slice Atw t.waiting.length Ctw)),(63,.v (.agg (bX xw).toArray))] 35 [.slice Atw t.waiting.length Ctw,.agg (bX xw).toArray] (some 64) rfl (aA fun ww hf => yIndexTuple_c t.waiting (.slice Atw t.waiting.length Ctw) xw ww (hf _ m2) ) ?_
 intro _
 refine aW [2,49,50,51,67] [(67,aB ((dG t.waiting xw) != (kw : Int)))] <| kC ((dG t.waiting xw) != (kw : Int)) (fun h9 => ?_) (fun h9 => ?_)
 have h9p := neT h9
 have hno := tableOk_w (l := l) hxw (wOne_no2 (by simpa using h9))
 refine kQ <| aT [4] [(4,aB false)] <| kR ?_
 exact ⟨[.bool false],by kernel_rfl,fun w' hb hf => ⟨au (show (false : Bool) = bp t l from by first | exact hno.symm | (exact (cg (by simpa using h1) (by omega) (by omega) hallC hgew HKw).symm) | (exact (cj (by simpa using h1)).symm) | (exact (ck (by omega)).symm) | (exact (cy (by omega)).symm)),hb⟩⟩
 have h9p := neF h9
 have hy2 : dG t.waiting xw = (kw : Int) := by simpa using h9
 refine kK <| kG <| di 2 [2,49,50,51] [(51,aI (K6.wrap ((kw : Int) + 1)))] <| cU [2,49,50,51] [(51,aI (K6.wrap ((kw : Int) + 1)))] [(51,aI ((kw : Int) + 1))] (by rw [show (K6.wrap ((kw : Int) + 1)) = ((kw : Int) + 1) from al (by omega) (by omega)]) (by kernel_rfl) ?_
 refine aW [2,49,50,51] [] ?_
 exact ⟨⟨(kw + 1),⟨by omega,all_step (p := wOne t) hxw (wOne_yes hy1 hy2) HKw⟩⟩,kF 2 0 [2,49,50,51],by show t.waiting.length - (kw + 1) < t.waiting.length - kw; omega⟩
 have h7p := of_decide_eq_false h7
 have hgew : kw = t.waiting.length := by simp at h7; omega
 refine bH <| kQ <| aT [4] [(4,aB true)] <| kR ?_
 exact ⟨[.bool true],by kernel_rfl,fun w' hb hf => ⟨au (show (true : Bool) = bp t l from by first | exact hno.symm | (exact (cg (by simpa using h1) (by omega) (by omega) hallC hgew HKw).symm) | (exact (cj (by simpa using h1)).symm) | (exact (ck (by omega)).symm) | (exact (cy (by omega)).symm)),hb⟩⟩
theorem yEqualTuple_c (a : List Tup) (aV : Value) (b : List Tup) (bV : Value) (w : World) (hl_aV : Sl w aV 3 (a.map a7)) (hl_bV : Sl w bV 3 (b.map a7))  : Calls Tryz.prog 43 #[aV, bV] w fun e w' => e = .returned (.bool (d7 bz a b)) ∧ Below w.heap.size w w' := by
 obtain ⟨Aa,Ca,hva⟩ := hl_aV.form
 rw [List.length_map] at hva; subst hva
 have hna := hl_aV.len; rw [List.length_map] at hna
 have hqa := Sl.capLe hl_aV
 obtain ⟨Ab,Cb,hvb⟩ := hl_bV.form
 rw [List.length_map] at hvb; subst hvb
 have hnb := hl_bV.len; rw [List.length_map] at hnb
 have hqb := Sl.capLe hl_bV
 refine bZ (args := [.slice Aa a.length Ca,.slice Ab b.length Cb]) (fn := Tryz.f43) [aJ (.slice Aa a.length Ca) 3 (a.map a7),aJ (.slice Ab b.length Cb) 3 (b.map a7)] Tryz.func43 rfl Tryz.ntmps43 rfl (by simp only [List.mem_cons,List.not_mem_nil,or_false,forall_eq_or_imp,forall_eq]; exact ⟨⟨rfl,hl_aV⟩,⟨rfl,hl_bV⟩⟩) ?_
 refine kQ <| cm [0,1] ⟨[(0,.v (.slice Aa a.length Ca)),(1,.v (.slice Ab b.length Cb))],[],[],[aJ (.slice Aa a.length Ca) 3 (a.map a7),aJ (.slice Ab b.length Cb) 3 (b.map a7)]⟩ <| kS <| kQ <| aW [0,1,10] [(10,aB (((a.length : Nat) : Int) != ((b.length : Nat) : Int)))] ?_
 refine kC (((a.length : Nat) : Int) != ((b.length : Nat) : Int)) (fun h1 => ?_) (fun h1 => ?_)
 have h1p := neT h1
 refine kQ <| aT [4] [(4,aB false)] <| kR ?_
 exact ⟨[.bool false],by kernel_rfl,fun w' hb hf => ⟨au (show (false : Bool) = d7 bz a b from by first | exact hnow.symm | exact hallw.symm | exact (bj (by omega)).symm),hb⟩⟩
 have h1p := neF h1
 refine kK <| kS <| kQ <| aW [0,1,12,13] [(12,aI ((a.length : Nat) : Int)),(13,aI 0)] ?_
 refine ao ?_
 have hlenw : a.length = b.length := by omega
 refine bc (α := {x : Nat // (fun (kw : Nat) => kw ≤ a.length ∧ ∀ (i : Nat) (x y : Tup),i < kw → a[i]? = some x → b[i]? = some y → bz x y = true) x}) (fun x => (fun (kw : Nat) => (⟨[(0,.v (.slice Aa a.length Ca)),(1,.v (.slice Ab b.length Cb)),(12,aI ((a.length : Nat) : Int)),(13,aI (kw : Int))],[],[],[aJ (.slice Aa a.length Ca) 3 (a.map a7),aJ (.slice Ab b.length Cb) 3 (b.map a7)]⟩ : St)) x.1) (fun x => a.length - x.1) ⟨(0),⟨Nat.zero_le _,fun i x y hi => by omega⟩⟩ (kF 0 0 [0,1,12,13]) ?_
 rintro ⟨kw,hkw,HKw⟩
 try dsimp only
 try dsimp only at hkw HKw
 refine kQ <| aW [0,1,12,13,14] [(14,aB (decide ((kw : Int) < ((a.length : Nat) : Int))))] <| kS <| kC (decide ((kw : Int) < ((a.length : Nat) : Int))) (fun h2 => ?_) (fun h2 => ?_)
 have h2p := of_decide_eq_true h2
 have hltw : kw < a.length := by simpa using h2
 obtain ⟨xw,hxw⟩ : ∃ x,a[kw]? = some x := ⟨_,List.getElem?_eq_getElem hltw⟩
 obtain ⟨yw,hyw⟩ : ∃ y,b[kw]? = some y := ⟨_,List.getElem?_eq_getElem (by omega)⟩
 refine kK <| kS <| ao <| kQ <| aW [0,1,5,12,13] [(5,aI (kw : Int))] ?_
 refine kS <| d5 <| cA (K := 3) (j := kw) [iI xw.ip,iI xw.port,iI xw.my] (aJ (.slice Aa a.length Ca) 3 (a.map a7)) (fun _ _ h => h) (by simp) (fun w h => h) (fun b h => h) (by simp only [List.getElem?_map,hxw]; rfl) (fun bq3 offq3 hAq3 => ?_)
 refine cA (K := 3) (j := kw) [iI yw.ip,iI yw.port,iI yw.my] (aJ (.slice Ab b.length Cb) 3 (b.map a7)) (fun _ _ h => h) (by simp) (fun w h => h) (fun b h => h) (by simp only [List.getElem?_map,hyw]; rfl) (fun bq4 offq4 hAq4 => ?_)
 refine ci [] (by kernel_rfl) (fun ρ σ hq5 => ?_)
 refine d9 [0,1,4,5] [21,20,17,16,0,1,12,13] 5 [(21,aI (kw : Int)),(20,.v (.slice Ab b.length Cb)),(17,aI (kw : Int)),(16,.v (.slice Aa a.length Ca))] <| cX (kd := .i64) (T := 25) (e := 32) (K := 3) (j := kw) (A := Aa) (len := a.length) (cap := Ca) 2 0 _ rfl (by kernel_rfl) (by kernel_rfl) (by kernel_rfl) (fun _ _ h => h) (by kernel_rfl) rfl rfl (by kernel_rfl) (by kernel_rfl) (by kernel_rfl) (by kernel_rfl) hltw hAq3 hq5.1.2 (by kernel_rfl) rfl ?_
 refine d9 [3] [19,21,20,0,1,12,13] 3 [(19,.v (.agg (bX xw).toArray))] <| cX (kd := .i64) (T := 25) (e := 32) (K := 3) (j := kw) (A := Ab) (len := b.length) (cap := Cb) 6 1 _ rfl (by kernel_rfl) (by kernel_rfl) (by kernel_rfl) (fun _ _ h => h) (by kernel_rfl) rfl rfl (by kernel_rfl) (by kernel_rfl) (by kernel_rfl) (by kernel_rfl) (by omega) hAq4 hq5.2 (by kernel_rfl) rfl ?_
 refine d9 [7] [23,19,0,1,12,13] 1 [(23,.v (.agg (bX yw).toArray))] <| kX 8 (.bool (!bz xw yw)) rfl (fun _ _ ww hA => co hA rfl (by kernel_rfl) (by kernel_rfl) (ez (by kernel_rfl) (run_neq_TUP xw.ip xw.port xw.my yw.ip yw.port yw.my ww))) ?_
 refine kZ <| kC (!bz xw yw) (fun h6 => ?_) (fun h6 => ?_)
 have hnow := gZ hxw hyw (by simpa using h6)
 refine kQ <| aT [4] [(4,aB false)] <| kR ?_
 exact ⟨[.bool false],by kernel_rfl,fun w' hb hf => ⟨au (show (false : Bool) = d7 bz a b from by first | exact hnow.symm | exact hallw.symm | exact (bj (by omega)).symm),hb⟩⟩
 have hyew : bz xw yw = true := by simpa using h6
 refine kK <| kG <| di 2 [0,1,12,13] [(13,aI (K6.wrap ((kw : Int) + 1)))] <| cU [0,1,12,13] [(13,aI (K6.wrap ((kw : Int) + 1)))] [(13,aI ((kw : Int) + 1))] (by rw [show (K6.wrap ((kw : Int) + 1)) = ((kw : Int) + 1) from al (by omega) (by omega)]) (by kernel_rfl) ?_
 refine aW [0,1,12,13] [] ?_
 exact ⟨⟨(kw + 1),⟨by omega,fE hxw hyw hyew HKw⟩⟩,kF 0 0 [0,1,12,13],by show a.length - (kw + 1) < a.length - kw; omega⟩
 have h2p := of_decide_eq_false h2
 have hgew : kw = a.length := by simp at h2; omega
 have hallw := eT hgew hlenw HKw
 refine bH <| kQ <| aT [4] [(4,aB true)] <| kR ?_
 exact ⟨[.bool true],by kernel_rfl,fun w' hb hf => ⟨au (show (true : Bool) = d7 bz a b from by first | exact hnow.symm | exact hallw.symm | exact (bj (by omega)).symm),hb⟩⟩
theorem ysSameTable_c (a : Tab) (a_connsV : Value) (a_waitingV : Value) (b : Tab) (b_connsV : Value) (b_waitingV : Value) (w : World) (hl_a_connsV : Sl w a_connsV 25 (a.conns.map aq)) (hh_a_connsV : ∀ x ∈ a.conns, Sl w x.2 2 (x.1.r.held.map pC)) (hl_a_waitingV : Sl w a_waitingV 3 (a.waiting.map a7)) (hl_b_connsV : Sl w b_connsV 25 (b.conns.map aq)) (hh_b_connsV : ∀ x ∈ b.conns, Sl w x.2 2 (x.1.r.held.map pC)) (hl_b_waitingV : Sl w b_waitingV 3 (b.waiting.map a7))  : Calls Tryz.prog 8 #[.agg (bk a a_connsV a_waitingV).toArray, .agg (bk b b_connsV b_waitingV).toArray] w fun e w' => e = .returned (.bool (aQ a b)) ∧ Below w.heap.size w w' := by
 obtain ⟨Aac,Cac,hvac⟩ := hl_a_connsV.form
 rw [List.length_map] at hvac; subst hvac
 have hnac := hl_a_connsV.len; rw [List.length_map] at hnac
 have hqac := Sl.capLe hl_a_connsV
 obtain ⟨Aaw,Caw,hvaw⟩ := hl_a_waitingV.form
 rw [List.length_map] at hvaw; subst hvaw
 have hnaw := hl_a_waitingV.len; rw [List.length_map] at hnaw
 have hqaw := Sl.capLe hl_a_waitingV
 obtain ⟨Abc,Cbc,hvbc⟩ := hl_b_connsV.form
 rw [List.length_map] at hvbc; subst hvbc
 have hnbc := hl_b_connsV.len; rw [List.length_map] at hnbc
 have hqbc := Sl.capLe hl_b_connsV
 obtain ⟨Abw,Cbw,hvbw⟩ := hl_b_waitingV.form
 rw [List.length_map] at hvbw; subst hvbw
 have hnbw := hl_b_waitingV.len; rw [List.length_map] at hnbw
 have hqbw := Sl.capLe hl_b_waitingV
 refine bZ (args := [.agg (bk a (.slice Aac a.conns.length Cac) (.slice Aaw a.waiting.length Caw)).toArray,.agg (bk b (.slice Abc b.conns.length Cbc) (.slice Abw b.waiting.length Cbw)).toArray]) (fn := Tryz.f8) [aJ (.slice Aac a.conns.length Cac) 25 (a.conns.map aq),cL a.conns,aJ (.slice Aaw a.waiting.length Caw) 3 (a.waiting.map a7),aJ (.slice Abc b.conns.length Cbc) 25 (b.conns.map aq),cL b.conns,aJ (.slice Abw b.waiting.length Cbw) 3 (b.waiting.map a7)] Tryz.func8 rfl Tryz.ntmps8 rfl (by simp only [List.mem_cons,List.not_mem_nil,or_false,forall_eq_or_imp,forall_eq]; exact ⟨⟨rfl,hl_a_connsV⟩,⟨rfl,hh_a_connsV⟩,⟨rfl,hl_a_waitingV⟩,⟨rfl,hl_b_connsV⟩,⟨rfl,hh_b_connsV⟩,⟨rfl,hl_b_waitingV⟩⟩) ?_
 refine kQ <| cm [2,3] ⟨[(2,.p 0 0),(3,.p 1 0)],[⟨27,bk a (.slice Aac a.conns.length Cac) (.slice Aaw a.waiting.length Caw)⟩,⟨27,bk b (.slice Abc b.conns.length Cbc) (.slice Abw b.waiting.length Cbw)⟩],[],[aJ (.slice Aac a.conns.length Cac) 25 (a.conns.map aq),cL a.conns,aJ (.slice Aaw a.waiting.length Caw) 3 (a.waiting.map a7),aJ (.slice Abc b.conns.length Cbc) 25 (b.conns.map aq),cL b.conns,aJ (.slice Abw b.waiting.length Cbw) 3 (b.waiting.map a7)]⟩ <| kS <| kQ <| di 8 [2,3,14] [(14,aB (((a.conns.length : Nat) : Int) != ((b.conns.length : Nat) : Int)))] ?_
 refine kP 14 (((a.conns.length : Nat) : Int) != ((b.conns.length : Nat) : Int)) (fun h1 => ?_) (fun h1 => ?_)
 have h1p := neT h1
 refine aW [2,3,22] [(22,aB true)] <| kT <| kQ <| aT [4] [(4,aB false)] ?_
 refine kR ?_
 exact ⟨[.bool false],by kernel_rfl,fun w' hb hf => ⟨au (show (false : Bool) = aQ a b from by first | (unfold aQ; rw [hno]; rfl) | (unfold aQ; rw [hnow]; simp) | (unfold aQ; rw [hall,hallw]; rfl) | (unfold aQ; rw [bj (a := a.conns) (by omega)]; rfl) | (unfold aQ; rw [bj (a := a.waiting) (by omega)]; simp)),hb⟩⟩
 have h1p := neF h1
 refine aW [2,3,22] [(22,aB (((a.waiting.length : Nat) : Int) != ((b.waiting.length : Nat) : Int)))] <| kC (((a.waiting.length : Nat) : Int) != ((b.waiting.length : Nat) : Int)) (fun h2 => ?_) (fun h2 => ?_)
 have h2p := neT h2
 refine kQ <| aT [4] [(4,aB false)] <| kR ?_
 exact ⟨[.bool false],by kernel_rfl,fun w' hb hf => ⟨au (show (false : Bool) = aQ a b from by first | (unfold aQ; rw [hno]; rfl) | (unfold aQ; rw [hnow]; simp) | (unfold aQ; rw [hall,hallw]; rfl) | (unfold aQ; rw [bj (a := a.conns) (by omega)]; rfl) | (unfold aQ; rw [bj (a := a.waiting) (by omega)]; simp)),hb⟩⟩
 have h2p := neF h2
 refine kK <| kS <| kQ <| aW [2,3,5] [(5,aI 0)] ?_
 refine ao ?_
 have hlen : a.conns.length = b.conns.length := by omega
 refine bc (α := {x : Nat // (fun (k : Nat) => k ≤ a.conns.length ∧ ∀ (i : Nat) (x y : CV),i < k → a.conns[i]? = some x → b.conns[i]? = some y → bU x.1 y.1 = true) x}) (fun x => (fun (k : Nat) => (⟨[(2,.p 0 0),(3,.p 1 0),(5,aI (k : Int))],[⟨27,bk a (.slice Aac a.conns.length Cac) (.slice Aaw a.waiting.length Caw)⟩,⟨27,bk b (.slice Abc b.conns.length Cbc) (.slice Abw b.waiting.length Cbw)⟩],[],[aJ (.slice Aac a.conns.length Cac) 25 (a.conns.map aq),cL a.conns,aJ (.slice Aaw a.waiting.length Caw) 3 (a.waiting.map a7),aJ (.slice Abc b.conns.length Cbc) 25 (b.conns.map aq),cL b.conns,aJ (.slice Abw b.waiting.length Cbw) 3 (b.waiting.map a7)]⟩ : St)) x.1) (fun x => a.conns.length - x.1) ⟨(0),⟨Nat.zero_le _,fun i x y hi => by omega⟩⟩ (kF 2 0 [2,3,5]) ?_
 rintro ⟨k,hk,HK⟩
 try dsimp only
 try dsimp only at hk HK
 refine kS <| kQ <| aW [2,3,5,27] [(27,aB (decide ((k : Int) < ((a.conns.length : Nat) : Int))))] <| kC (decide ((k : Int) < ((a.conns.length : Nat) : Int))) (fun h3 => ?_) (fun h3 => ?_)
 have h3p := of_decide_eq_true h3
 have hlt : k < a.conns.length := by simpa using h3
 obtain ⟨x0,hx⟩ : ∃ x,a.conns[k]? = some x := ⟨_,List.getElem?_eq_getElem hlt⟩
 obtain ⟨x,xa,xc,rfl⟩ := eB (hh_a_connsV x0 (List.mem_of_getElem? hx))
 obtain ⟨y0,hy⟩ : ∃ y,b.conns[k]? = some y := ⟨_,List.getElem?_eq_getElem (by omega)⟩
 obtain ⟨y,ya,yc,rfl⟩ := eB (hh_b_connsV y0 (List.mem_of_getElem? hy))
 refine kK <| kS <| ao <| kS <| d5 ?_
 refine cA (K := 25) (j := k) [iI x.t.ip,iI x.t.port,iI x.t.my,iI x.state,iI x.s.una,.string x.s.data,iI x.s.sent,.bool x.s.fin,.bool x.s.finSent,.bool x.s.done,iI x.r.next,.string x.r.data,.slice xa x.r.held.length xc,iI x.r.fin,.bool x.r.done,iI x.window,iI x.most,iI x.o.mss,iI x.o.scale,.bool x.o.sack,.bool x.o.stamp,iI x.o.val,iI x.o.echo,iI x.timer,iI x.tries] (aJ (.slice Aac a.conns.length Cac) 25 (a.conns.map aq)) (fun _ _ h => h) (by simp) (fun w h => h) (fun b h => h) (by simp only [List.getElem?_map,hx]; rfl) (fun bq4 offq4 hAq4 => ?_)
 refine cA (K := 25) (j := k) [iI y.t.ip,iI y.t.port,iI y.t.my,iI y.state,iI y.s.una,.string y.s.data,iI y.s.sent,.bool y.s.fin,.bool y.s.finSent,.bool y.s.done,iI y.r.next,.string y.r.data,.slice ya y.r.held.length yc,iI y.r.fin,.bool y.r.done,iI y.window,iI y.most,iI y.o.mss,iI y.o.scale,.bool y.o.sack,.bool y.o.stamp,iI y.o.val,iI y.o.echo,iI y.timer,iI y.tries] (aJ (.slice Abc b.conns.length Cbc) 25 (b.conns.map aq)) (fun _ _ h => h) (by simp) (fun w h => h) (fun b h => h) (by simp only [List.getElem?_map,hy]; rfl) (fun bq5 offq5 hAq5 => ?_)
 refine ci [] (by kernel_rfl) (fun ρ σ hq6 => ?_)
 refine d9 [0,1,2,5,6,7] [37,36,32,31,2,3,5] 6 [(37,aI (k : Int)),(36,.v (.slice Abc b.conns.length Cbc)),(32,aI (k : Int)),(31,.v (.slice Aac a.conns.length Cac))] <| cX (kd := .i64) (T := 24) (e := 41) (K := 25) (j := k) (A := Aac) (len := a.conns.length) (cap := Cac) 3 0 _ rfl (by kernel_rfl) (by kernel_rfl) (by kernel_rfl) (fun _ _ h => h) (by kernel_rfl) rfl rfl (by kernel_rfl) (by kernel_rfl) (by kernel_rfl) (by kernel_rfl) hlt hAq4 hq6.1.2 (by kernel_rfl) rfl ?_
 refine d9 [4] [34,37,36,2,3,5] 4 [(34,.v (.agg (a6 x (cS xa x xc)).toArray))] <| cX (kd := .i64) (T := 24) (e := 41) (K := 25) (j := k) (A := Abc) (len := b.conns.length) (cap := Cbc) 8 1 _ rfl (by kernel_rfl) (by kernel_rfl) (by kernel_rfl) (fun _ _ h => h) (by kernel_rfl) rfl rfl (by kernel_rfl) (by kernel_rfl) (by kernel_rfl) (by kernel_rfl) (by omega) hAq5 hq6.2 (by kernel_rfl) rfl ?_
 refine d9 [9] [39,34,2,3,5] 2 [(39,.v (.agg (a6 y (cS ya y yc)).toArray))] <| kA [10] <| du 10 16 [.agg (a6 x (cS xa x xc)).toArray,.agg (a6 y (cS ya y yc)).toArray] (some 40) rfl (aA fun ww hf => ysSameConn_c x (cS xa x xc) y (cS ya y yc) ww ((hf _ m1) (x,.slice xa x.r.held.length xc) (List.mem_of_getElem? hx)) ((hf _ m4) (y,.slice ya y.r.held.length yc) (List.mem_of_getElem? hy)) ) ?_
 intro _
 refine d9 [11] [41,2,3,5] 0 [(41,aB (!(bU x y)))] <| kZ <| kC (!(bU x y)) (fun h7 => ?_) (fun h7 => ?_)
 have hno := gZ (eq := fun x y : CV => bU x.1 y.1) hx hy (by simpa using h7)
 refine kQ <| aT [4] [(4,aB false)] <| kR ?_
 exact ⟨[.bool false],by kernel_rfl,fun w' hb hf => ⟨au (show (false : Bool) = aQ a b from by first | (unfold aQ; rw [hno]; rfl) | (unfold aQ; rw [hnow]; simp) | (unfold aQ; rw [hall,hallw]; rfl) | (unfold aQ; rw [bj (a := a.conns) (by omega)]; rfl) | (unfold aQ; rw [bj (a := a.waiting) (by omega)]; simp)),hb⟩⟩
 have hye : bU x y = true := by simpa using h7
 refine kK <| kG <| di 3 [2,3,5] [(5,aI (K6.wrap ((k : Int) + 1)))] <| cU [2,3,5] [(5,aI (K6.wrap ((k : Int) + 1)))] [(5,aI ((k : Int) + 1))] (by rw [show (K6.wrap ((k : Int) + 1)) = ((k : Int) + 1) from al (by omega) (by omega)]) (by kernel_rfl) ?_
 refine aT [2,3,5] [(2,.p 0 0),(3,.p 1 0),(5,aI ((k : Int) + 1))] ?_
 exact ⟨⟨(k + 1),⟨by omega,fE (eq := fun x y : CV => bU x.1 y.1) hx hy hye HK⟩⟩,kF 2 0 [2,3,5],by show a.conns.length - (k + 1) < a.conns.length - k; omega⟩
 have h3p := of_decide_eq_false h3
 have hge : k = a.conns.length := by simp at h3; omega
 have hall := eT (eq := fun x y : CV => bU x.1 y.1) hge hlen HK
 refine bH <| kS <| kQ <| aW [2,3,6] [(6,aI 0)] ?_
 refine ao ?_
 have hlenw : a.waiting.length = b.waiting.length := by omega
 refine bc (α := {x : Nat // (fun (kw : Nat) => kw ≤ a.waiting.length ∧ ∀ (i : Nat) (x y : Tup),i < kw → a.waiting[i]? = some x → b.waiting[i]? = some y → bz x y = true) x}) (fun x => (fun (kw : Nat) => (⟨[(2,.p 0 0),(3,.p 1 0),(6,aI (kw : Int))],[⟨27,bk a (.slice Aac a.conns.length Cac) (.slice Aaw a.waiting.length Caw)⟩,⟨27,bk b (.slice Abc b.conns.length Cbc) (.slice Abw b.waiting.length Cbw)⟩],[],[aJ (.slice Aac a.conns.length Cac) 25 (a.conns.map aq),cL a.conns,aJ (.slice Aaw a.waiting.length Caw) 3 (a.waiting.map a7),aJ (.slice Abc b.conns.length Cbc) 25 (b.conns.map aq),cL b.conns,aJ (.slice Abw b.waiting.length Cbw) 3 (b.waiting.map a7)]⟩ : St)) x.1) (fun x => a.waiting.length - x.1) ⟨(0),⟨Nat.zero_le _,fun i x y hi => by omega⟩⟩ (kF 2 0 [2,3,6]) ?_
 rintro ⟨kw,hkw,HKw⟩
 try dsimp only
 try dsimp only at hkw HKw
 refine kS <| kQ <| aW [2,3,6,46] [(46,aB (decide ((kw : Int) < ((a.waiting.length : Nat) : Int))))] <| kC (decide ((kw : Int) < ((a.waiting.length : Nat) : Int))) (fun h8 => ?_) (fun h8 => ?_)
 have h8p := of_decide_eq_true h8
 have hltw : kw < a.waiting.length := by simpa using h8
 obtain ⟨xw,hxw⟩ : ∃ x,a.waiting[kw]? = some x := ⟨_,List.getElem?_eq_getElem hltw⟩
 obtain ⟨yw,hyw⟩ : ∃ y,b.waiting[kw]? = some y := ⟨_,List.getElem?_eq_getElem (by omega)⟩
 refine kK <| kS <| ao <| kS <| d5 ?_
 refine cA (K := 3) (j := kw) [iI xw.ip,iI xw.port,iI xw.my] (aJ (.slice Aaw a.waiting.length Caw) 3 (a.waiting.map a7)) (fun _ _ h => h) (by simp) (fun w h => h) (fun b h => h) (by simp only [List.getElem?_map,hxw]; rfl) (fun bq9 offq9 hAq9 => ?_)
 refine cA (K := 3) (j := kw) [iI yw.ip,iI yw.port,iI yw.my] (aJ (.slice Abw b.waiting.length Cbw) 3 (b.waiting.map a7)) (fun _ _ h => h) (by simp) (fun w h => h) (fun b h => h) (by simp only [List.getElem?_map,hyw]; rfl) (fun bq10 offq10 hAq10 => ?_)
 refine ci [] (by kernel_rfl) (fun ρ σ hq11 => ?_)
 refine d9 [0,1,2,5,6,7] [56,55,51,50,2,3,6] 5 [(56,aI (kw : Int)),(55,.v (.slice Abw b.waiting.length Cbw)),(51,aI (kw : Int)),(50,.v (.slice Aaw a.waiting.length Caw))] <| cX (kd := .i64) (T := 25) (e := 32) (K := 3) (j := kw) (A := Aaw) (len := a.waiting.length) (cap := Caw) 3 0 _ rfl (by kernel_rfl) (by kernel_rfl) (by kernel_rfl) (fun _ _ h => h) (by kernel_rfl) rfl rfl (by kernel_rfl) (by kernel_rfl) (by kernel_rfl) (by kernel_rfl) hltw hAq9 hq11.1.2 (by kernel_rfl) rfl ?_
 refine d9 [4] [53,56,55,2,3,6] 3 [(53,.v (.agg (bX xw).toArray))] <| cX (kd := .i64) (T := 25) (e := 32) (K := 3) (j := kw) (A := Abw) (len := b.waiting.length) (cap := Cbw) 8 1 _ rfl (by kernel_rfl) (by kernel_rfl) (by kernel_rfl) (fun _ _ h => h) (by kernel_rfl) rfl rfl (by kernel_rfl) (by kernel_rfl) (by kernel_rfl) (by kernel_rfl) (by omega) hAq10 hq11.2 (by kernel_rfl) rfl ?_
 refine d9 [9] [58,53,2,3,6] 1 [(58,.v (.agg (bX yw).toArray))] <| kX 10 (.bool (!bz xw yw)) rfl (fun _ _ ww hA => co hA rfl (by kernel_rfl) (by kernel_rfl) (ez (by kernel_rfl) (run_neq_TUP xw.ip xw.port xw.my yw.ip yw.port yw.my ww))) ?_
 refine kZ <| kC (!bz xw yw) (fun h12 => ?_) (fun h12 => ?_)
 have hnow := gZ hxw hyw (by simpa using h12)
 refine kQ <| aT [4] [(4,aB false)] <| kR ?_
 exact ⟨[.bool false],by kernel_rfl,fun w' hb hf => ⟨au (show (false : Bool) = aQ a b from by first | (unfold aQ; rw [hno]; rfl) | (unfold aQ; rw [hnow]; simp) | (unfold aQ; rw [hall,hallw]; rfl) | (unfold aQ; rw [bj (a := a.conns) (by omega)]; rfl) | (unfold aQ; rw [bj (a := a.waiting) (by omega)]; simp)),hb⟩⟩
 have hyew : bz xw yw = true := by simpa using h12
 refine kK <| kG <| dt 3 [2,3,6] [(2,.p 0 0),(3,.p 1 0),(6,aI (K6.wrap ((kw : Int) + 1)))] <| fU (t' := [(2,.p 0 0),(3,.p 1 0),(6,aI ((kw : Int) + 1))]) (by rw [show (K6.wrap ((kw : Int) + 1)) = ((kw : Int) + 1) from al (by omega) (by omega)]) ?_
 refine aW [2,3,6] [] ?_
 exact ⟨⟨(kw + 1),⟨by omega,fE hxw hyw hyew HKw⟩⟩,kF 2 0 [2,3,6],by show a.waiting.length - (kw + 1) < a.waiting.length - kw; omega⟩
 have h8p := of_decide_eq_false h8
 have hgew : kw = a.waiting.length := by simp at h8; omega
 have hallw := eT hgew hlenw HKw
 refine bH <| kQ <| aT [4] [(4,aB true)] <| kR ?_
 exact ⟨[.bool true],by kernel_rfl,fun w' hb hf => ⟨au (show (true : Bool) = aQ a b from by first | (unfold aQ; rw [hno]; rfl) | (unfold aQ; rw [hnow]; simp) | (unfold aQ; rw [hall,hallw]; rfl) | (unfold aQ; rw [bj (a := a.conns) (by omega)]; rfl) | (unfold aQ; rw [bj (a := a.waiting) (by omega)]; simp)),hb⟩⟩
theorem yEqualFConn_c (a : List CV) (aV : Value) (b : List CV) (bV : Value) (w : World) (hl_aV : Sl w aV 25 (a.map aq)) (hh_aV : ∀ x ∈ a, Sl w x.2 2 (x.1.r.held.map pC)) (hl_bV : Sl w bV 25 (b.map aq)) (hh_bV : ∀ x ∈ b, Sl w x.2 2 (x.1.r.held.map pC))  : Calls Tryz.prog 41 #[aV, bV, .func (.func 42) #[] #[]] w fun e w' => e = .returned (.bool (d7 (fun x y : CV => bU x.1 y.1) a b)) ∧ Below w.heap.size w w' := by
 obtain ⟨Aa,Ca,hva⟩ := hl_aV.form
 rw [List.length_map] at hva; subst hva
 have hna := hl_aV.len; rw [List.length_map] at hna
 have hqa := Sl.capLe hl_aV
 obtain ⟨Ab,Cb,hvb⟩ := hl_bV.form
 rw [List.length_map] at hvb; subst hvb
 have hnb := hl_bV.len; rw [List.length_map] at hnb
 have hqb := Sl.capLe hl_bV
 refine bZ (args := [.slice Aa a.length Ca,.slice Ab b.length Cb,.func (.func 42) #[] #[]]) (fn := Tryz.f41) [aJ (.slice Aa a.length Ca) 25 (a.map aq),cL a,aJ (.slice Ab b.length Cb) 25 (b.map aq),cL b] Tryz.func41 rfl Tryz.ntmps41 rfl (by simp only [List.mem_cons,List.not_mem_nil,or_false,forall_eq_or_imp,forall_eq]; exact ⟨⟨rfl,hl_aV⟩,⟨rfl,hh_aV⟩,⟨rfl,hl_bV⟩,⟨rfl,hh_bV⟩⟩) ?_
 refine kQ <| cm [0,1,2] ⟨[(0,.v (.slice Aa a.length Ca)),(1,.v (.slice Ab b.length Cb)),(2,.v (.func (.func 42) #[] #[]))],[],[],[aJ (.slice Aa a.length Ca) 25 (a.map aq),cL a,aJ (.slice Ab b.length Cb) 25 (b.map aq),cL b]⟩ <| kS <| kQ <| aW [0,1,2,14] [(14,aB (((a.length : Nat) : Int) != ((b.length : Nat) : Int)))] ?_
 refine kC (((a.length : Nat) : Int) != ((b.length : Nat) : Int)) (fun h1 => ?_) (fun h1 => ?_)
 have h1p := neT h1
 refine kQ <| aT [6] [(6,aB false)] <| kR ?_
 exact ⟨[.bool false],by kernel_rfl,fun w' hb hf => ⟨au (by first | exact hno.symm | exact hall.symm | exact (bj (by omega)).symm),hb⟩⟩
 have h1p := neF h1
 refine kK <| kS <| kQ <| aW [1,2,15,16,17] [(15,.v (.slice Aa a.length Ca)),(16,aI ((a.length : Nat) : Int)),(17,aI 0)] ?_
 refine ao ?_
 have hlen : a.length = b.length := by omega
 refine bc (α := {x : Nat // (fun (k : Nat) => k ≤ a.length ∧ ∀ (i : Nat) (x y : CV),i < k → a[i]? = some x → b[i]? = some y → bU x.1 y.1 = true) x}) (fun x => (fun (k : Nat) => (⟨[(1,.v (.slice Ab b.length Cb)),(2,.v (.func (.func 42) #[] #[])),(15,.v (.slice Aa a.length Ca)),(16,aI ((a.length : Nat) : Int)),(17,aI (k : Int))],[],[],[aJ (.slice Aa a.length Ca) 25 (a.map aq),cL a,aJ (.slice Ab b.length Cb) 25 (b.map aq),cL b]⟩ : St)) x.1) (fun x => a.length - x.1) ⟨(0),⟨Nat.zero_le _,fun i x y hi => by omega⟩⟩ (kF 0 0 [1,2,15,16,17]) ?_
 rintro ⟨k,hk,HK⟩
 try dsimp only
 try dsimp only at hk HK
 refine kQ <| aW [1,2,15,16,17,18] [(18,aB (decide ((k : Int) < ((a.length : Nat) : Int))))] <| kS <| kC (decide ((k : Int) < ((a.length : Nat) : Int))) (fun h2 => ?_) (fun h2 => ?_)
 have h2p := of_decide_eq_true h2
 have hlt : k < a.length := by simpa using h2
 obtain ⟨x0,hx⟩ : ∃ x,a[k]? = some x := ⟨_,List.getElem?_eq_getElem hlt⟩
 obtain ⟨x,xa,xc,rfl⟩ := eB (hh_aV x0 (List.mem_of_getElem? hx))
 obtain ⟨y0,hy⟩ : ∃ y,b[k]? = some y := ⟨_,List.getElem?_eq_getElem (by omega)⟩
 obtain ⟨y,ya,yc,rfl⟩ := eB (hh_bV y0 (List.mem_of_getElem? hy))
 refine kK <| kS <| ao <| kQ <| de (kd := .i64) (T := 24) (e := 41) (K := 25) 1 [1,2,15,16,17,19] [(19,aI (k : Int))] k [iI x.t.ip,iI x.t.port,iI x.t.my,iI x.state,iI x.s.una,.string x.s.data,iI x.s.sent,.bool x.s.fin,.bool x.s.finSent,.bool x.s.done,iI x.r.next,.string x.r.data,.slice xa x.r.held.length xc,iI x.r.fin,.bool x.r.done,iI x.window,iI x.most,iI x.o.mss,iI x.o.scale,.bool x.o.sack,.bool x.o.stamp,iI x.o.val,iI x.o.echo,iI x.timer,iI x.tries] (aJ (.slice Aa a.length Ca) 25 (a.map aq)) (by kernel_rfl) rfl (by kernel_rfl) rfl rfl (by kernel_rfl) (by kernel_rfl) (by kernel_rfl) (by kernel_rfl) hlt (by simp) (fun w h => h) (fun b h => h) (by simp only [List.getElem?_map,hx]; rfl) ?_
 refine gk [1,2,7,8,15,16,17] [(7,aI (k : Int)),(8,.p 0 0)] [⟨41,a6 x (cS xa x xc)⟩] <| kQ <| de (kd := .i64) (T := 24) (e := 41) (K := 25) 2 [1,2,8,15,16,17,22,23] [(22,.v (.slice Ab b.length Cb)),(23,aI (k : Int))] k [iI y.t.ip,iI y.t.port,iI y.t.my,iI y.state,iI y.s.una,.string y.s.data,iI y.s.sent,.bool y.s.fin,.bool y.s.finSent,.bool y.s.done,iI y.r.next,.string y.r.data,.slice ya y.r.held.length yc,iI y.r.fin,.bool y.r.done,iI y.window,iI y.most,iI y.o.mss,iI y.o.scale,.bool y.o.sack,.bool y.o.stamp,iI y.o.val,iI y.o.echo,iI y.timer,iI y.tries] (aJ (.slice Ab b.length Cb) 25 (b.map aq)) (by kernel_rfl) rfl (by kernel_rfl) rfl rfl (by kernel_rfl) (by kernel_rfl) (by kernel_rfl) (by kernel_rfl) (by omega) (by simp) (fun w h => h) (fun b h => h) (by simp only [List.getElem?_map,hy]; rfl) ?_
 refine gk [1,2,8,9,15,16,17] [(9,.p 1 0)] [⟨41,a6 y (cS ya y yc)⟩] <| kQ <| dR 3 [1,2,15,16,17,26,27,28] [(26,.v (.func (.func 42) #[] #[])),(27,.v (.agg (a6 x (cS xa x xc)).toArray)),(28,.v (.agg (a6 y (cS ya y yc)).toArray))] 42 [.agg (a6 x (cS xa x xc)).toArray,.agg (a6 y (cS ya y yc)).toArray] (some 29) rfl (aA fun ww hf => yiSameConn_c x (cS xa x xc) y (cS ya y yc) ww ((hf _ m1) (x,.slice xa x.r.held.length xc) (List.mem_of_getElem? hx)) ((hf _ m3) (y,.slice ya y.r.held.length yc) (List.mem_of_getElem? hy)) ) ?_
 intro _
 refine aW [1,2,15,16,17,30] [(30,aB (!(bU x y)))] <| kC (!(bU x y)) (fun h3 => ?_) (fun h3 => ?_)
 have hno := gZ (eq := fun x y : CV => bU x.1 y.1) hx hy (by simpa using h3)
 refine kQ <| aT [6] [(6,aB false)] <| kR ?_
 exact ⟨[.bool false],by kernel_rfl,fun w' hb hf => ⟨au (by first | exact hno.symm | exact hall.symm | exact (bj (by omega)).symm),hb⟩⟩
 have hye : bU x y = true := by simpa using h3
 refine kK <| kG <| dt 2 [1,2,15,16,17] [(1,.v (.slice Ab b.length Cb)),(2,.v (.func (.func 42) #[] #[])),(15,.v (.slice Aa a.length Ca)),(16,aI ((a.length : Nat) : Int)),(17,aI (K6.wrap ((k : Int) + 1)))] <| fU (t' := [(1,.v (.slice Ab b.length Cb)),(2,.v (.func (.func 42) #[] #[])),(15,.v (.slice Aa a.length Ca)),(16,aI ((a.length : Nat) : Int)),(17,aI ((k : Int) + 1))]) (by rw [show (K6.wrap ((k : Int) + 1)) = ((k : Int) + 1) from al (by omega) (by omega)]) ?_
 refine aW [1,2,15,16,17] [] ?_
 exact ⟨⟨(k + 1),⟨by omega,fE (eq := fun x y : CV => bU x.1 y.1) hx hy hye HK⟩⟩,kF 0 0 [1,2,15,16,17],by show a.length - (k + 1) < a.length - k; omega⟩
 have h2p := of_decide_eq_false h2
 have hge : k = a.length := by simp at h2; omega
 have hall := eT (eq := fun x y : CV => bU x.1 y.1) hge hlen HK
 refine bH <| kQ <| aT [6] [(6,aB true)] <| kR ?_
 exact ⟨[.bool true],by kernel_rfl,fun w' hb hf => ⟨au (by first | exact hno.symm | exact hall.symm | exact (bj (by omega)).symm),hb⟩⟩
theorem yiSameTable_c (a : Tab) (a_connsV : Value) (a_waitingV : Value) (b : Tab) (b_connsV : Value) (b_waitingV : Value) (w : World) (hl_a_connsV : Sl w a_connsV 25 (a.conns.map aq)) (hh_a_connsV : ∀ x ∈ a.conns, Sl w x.2 2 (x.1.r.held.map pC)) (hl_a_waitingV : Sl w a_waitingV 3 (a.waiting.map a7)) (hl_b_connsV : Sl w b_connsV 25 (b.conns.map aq)) (hh_b_connsV : ∀ x ∈ b.conns, Sl w x.2 2 (x.1.r.held.map pC)) (hl_b_waitingV : Sl w b_waitingV 3 (b.waiting.map a7))  : Calls Tryz.prog 17 #[.agg (bk a a_connsV a_waitingV).toArray, .agg (bk b b_connsV b_waitingV).toArray] w fun e w' => e = .returned (.bool (aQ a b)) ∧ Below w.heap.size w w' := by
 obtain ⟨Aac,Cac,hvac⟩ := hl_a_connsV.form
 rw [List.length_map] at hvac; subst hvac
 have hnac := hl_a_connsV.len; rw [List.length_map] at hnac
 have hqac := Sl.capLe hl_a_connsV
 obtain ⟨Aaw,Caw,hvaw⟩ := hl_a_waitingV.form
 rw [List.length_map] at hvaw; subst hvaw
 have hnaw := hl_a_waitingV.len; rw [List.length_map] at hnaw
 have hqaw := Sl.capLe hl_a_waitingV
 obtain ⟨Abc,Cbc,hvbc⟩ := hl_b_connsV.form
 rw [List.length_map] at hvbc; subst hvbc
 have hnbc := hl_b_connsV.len; rw [List.length_map] at hnbc
 have hqbc := Sl.capLe hl_b_connsV
 obtain ⟨Abw,Cbw,hvbw⟩ := hl_b_waitingV.form
 rw [List.length_map] at hvbw; subst hvbw
 have hnbw := hl_b_waitingV.len; rw [List.length_map] at hnbw
 have hqbw := Sl.capLe hl_b_waitingV
 refine bZ (args := [.agg (bk a (.slice Aac a.conns.length Cac) (.slice Aaw a.waiting.length Caw)).toArray,.agg (bk b (.slice Abc b.conns.length Cbc) (.slice Abw b.waiting.length Cbw)).toArray]) (fn := Tryz.f17) [aJ (.slice Aac a.conns.length Cac) 25 (a.conns.map aq),cL a.conns,aJ (.slice Aaw a.waiting.length Caw) 3 (a.waiting.map a7),aJ (.slice Abc b.conns.length Cbc) 25 (b.conns.map aq),cL b.conns,aJ (.slice Abw b.waiting.length Cbw) 3 (b.waiting.map a7)] Tryz.func17 rfl Tryz.ntmps17 rfl (by simp only [List.mem_cons,List.not_mem_nil,or_false,forall_eq_or_imp,forall_eq]; exact ⟨⟨rfl,hl_a_connsV⟩,⟨rfl,hh_a_connsV⟩,⟨rfl,hl_a_waitingV⟩,⟨rfl,hl_b_connsV⟩,⟨rfl,hh_b_connsV⟩,⟨rfl,hl_b_waitingV⟩⟩) ?_
 refine kQ <| cm [2,3] ⟨[(2,.p 0 0),(3,.p 1 0)],[⟨27,bk a (.slice Aac a.conns.length Cac) (.slice Aaw a.waiting.length Caw)⟩,⟨27,bk b (.slice Abc b.conns.length Cbc) (.slice Abw b.waiting.length Cbw)⟩],[],[aJ (.slice Aac a.conns.length Cac) 25 (a.conns.map aq),cL a.conns,aJ (.slice Aaw a.waiting.length Caw) 3 (a.waiting.map a7),aJ (.slice Abc b.conns.length Cbc) 25 (b.conns.map aq),cL b.conns,aJ (.slice Abw b.waiting.length Cbw) 3 (b.waiting.map a7)]⟩ <| kS <| ba ⟨[(4,aB ((d7 (fun x y : CV => bU x.1 y.1) a.conns b.conns) && (d7 bz a.waiting b.waiting)))],[⟨27,bk a (.slice Aac a.conns.length Cac) (.slice Aaw a.waiting.length Caw)⟩,⟨27,bk b (.slice Abc b.conns.length Cbc) (.slice Abw b.waiting.length Cbw)⟩],[],[aJ (.slice Aac a.conns.length Cac) 25 (a.conns.map aq),cL a.conns,aJ (.slice Aaw a.waiting.length Caw) 3 (a.waiting.map a7),aJ (.slice Abc b.conns.length Cbc) 25 (b.conns.map aq),cL b.conns,aJ (.slice Abw b.waiting.length Cbw) 3 (b.waiting.map a7)]⟩ ?_ ?_
 refine kG <| dN 4 [2,3,6,8] [(2,.p 0 0),(3,.p 1 0),(6,.v (.slice Aac a.conns.length Cac)),(8,.v (.slice Abc b.conns.length Cbc))] 41 [.slice Aac a.conns.length Cac,.slice Abc b.conns.length Cbc,.func (.func 42) #[] #[]] (some 9) rfl (aA fun ww hf => yEqualFConn_c a.conns (.slice Aac a.conns.length Cac) b.conns (.slice Abc b.conns.length Cbc) ww (hf _ m0) (hf _ m1) (hf _ m3) (hf _ m4)) ?_
 intro _
 refine dt 1 [2,3,10] [(2,.p 0 0),(3,.p 1 0),(10,aB (d7 (fun x y : CV => bU x.1 y.1) a.conns b.conns))] <| kP 10 (d7 (fun x y : CV => bU x.1 y.1) a.conns b.conns) (fun h1 => ?_) (fun h1 => ?_)
 refine dN 4 [10,12,14] [(10,aB true),(12,.v (.slice Aaw a.waiting.length Caw)),(14,.v (.slice Abw b.waiting.length Cbw))] 43 [.slice Aaw a.waiting.length Caw,.slice Abw b.waiting.length Cbw] (some 15) rfl (aA fun ww hf => yEqualTuple_c a.waiting (.slice Aaw a.waiting.length Caw) b.waiting (.slice Abw b.waiting.length Cbw) ww (hf _ m2) (hf _ m5) ) ?_
 intro _
 refine aT [4] [(4,aB (d7 bz a.waiting b.waiting))] ?_
 show Wk _ _
 try rw [h1]
 exact kF 2 0 [4]
 refine aT [4] [(4,aB false)] ?_
 show Wk _ _
 try rw [h1]
 exact kF 2 0 [4]
 refine kR ?_
 exact ⟨[.bool ((d7 (fun x y : CV => bU x.1 y.1) a.conns b.conns) && (d7 bz a.waiting b.waiting))],by kernel_rfl,fun w' hb hf => ⟨au (show ((d7 (fun x y : CV => bU x.1 y.1) a.conns b.conns) && (d7 bz a.waiting b.waiting) : Bool) = aQ a b from by first | rfl | (simp [aQ, *]; done)),hb⟩⟩
theorem ysSegmentOk_c (g : Seg) (w : World) (hsz : g.body.size ≤ 4611686018427387904) : Calls Tryz.prog 122 #[.agg (cl g).toArray] w fun e w' => e = .returned (.bool (dO g)) ∧ Below w.heap.size w w' := by
 refine bZ (args := [.agg (cl g).toArray]) (fn := Tryz.f122) [] Tryz.func122 rfl Tryz.ntmps122 rfl (by simp) ?_
 refine kQ <| cm [1] ⟨[(1,.p 0 0)],[⟨105,cl g⟩],[],[]⟩ <| kS <| ba ⟨[(2,aB ((aU g.src 16) && ((aU g.dst 16) && ((aU g.window 16) && ((aU g.seq 32) && ((aU g.ack 32) && ((aU g.flags 6) && ((bl g.o) && (decide ((g.body.size : Int) ≤ 1420))))))))))],[⟨105,cl g⟩],[],[]⟩ ?_ ?_
 refine kG <| dN 2 [1,4] [(1,.p 0 0),(4,aI g.src)] 91 [iI g.src,iI 16] (some 5) rfl (c6 fun ww hf => e0 g.src ww) ?_
 intro _
 refine dt 1 [1,6] [(1,.p 0 0),(6,aB (aU g.src 16))] <| kP 6 (aU g.src 16) (fun h1 => ?_) (fun h1 => ?_)
 refine dN 2 [1,6,8] [(1,.p 0 0),(6,aB true),(8,aI g.dst)] 91 [iI g.dst,iI 16] (some 9) rfl (c6 fun ww hf => e0 g.dst ww) ?_
 intro _
 refine dt 2 [1,11] [(1,.p 0 0),(11,aB (aU g.dst 16))] <| kP 11 (aU g.dst 16) (fun h2 => ?_) (fun h2 => ?_)
 refine dN 2 [1,11,13] [(1,.p 0 0),(11,aB true),(13,aI g.window)] 91 [iI g.window,iI 16] (some 14) rfl (c6 fun ww hf => e0 g.window ww) ?_
 intro _
 refine dt 2 [1,16] [(1,.p 0 0),(16,aB (aU g.window 16))] <| kP 16 (aU g.window 16) (fun h3 => ?_) (fun h3 => ?_)
 refine dN 2 [1,16,18] [(1,.p 0 0),(16,aB true),(18,aI g.seq)] 91 [iI g.seq,iI 32] (some 19) rfl (c6 fun ww hf => eF g.seq ww) ?_
 intro _
 refine dt 2 [1,21] [(1,.p 0 0),(21,aB (aU g.seq 32))] <| kP 21 (aU g.seq 32) (fun h4 => ?_) (fun h4 => ?_)
 refine dN 2 [1,21,23] [(1,.p 0 0),(21,aB true),(23,aI g.ack)] 91 [iI g.ack,iI 32] (some 24) rfl (c6 fun ww hf => eF g.ack ww) ?_
 intro _
 refine dt 2 [1,26] [(1,.p 0 0),(26,aB (aU g.ack 32))] <| kP 26 (aU g.ack 32) (fun h5 => ?_) (fun h5 => ?_)
 refine dN 2 [1,26,28] [(1,.p 0 0),(26,aB true),(28,aI g.flags)] 91 [iI g.flags,iI 6] (some 29) rfl (c6 fun ww hf => gK g.flags ww) ?_
 intro _
 refine dt 2 [1,31] [(1,.p 0 0),(31,aB (aU g.flags 6))] <| kP 31 (aU g.flags 6) (fun h6 => ?_) (fun h6 => ?_)
 refine dN 2 [1,31,33] [(1,.p 0 0),(31,aB true),(33,.v (.agg (dH g.o).toArray))] 67 [.agg (dH g.o).toArray] (some 34) rfl (aA fun ww hf => gU g.o.mss g.o.scale g.o.sack g.o.stamp g.o.val g.o.echo ww ) ?_
 intro _
 refine dt 2 [1,36] [(1,.p 0 0),(36,aB (bl g.o))] <| kP 36 (bl g.o) (fun h7 => ?_) (fun h7 => ?_)
 refine aT [2] [(2,aB (decide ((g.body.size : Int) ≤ 1420)))] ?_
 show Wk _ _
 try rw [h1]
 try rw [h2]
 try rw [h3]
 try rw [h4]
 try rw [h5]
 try rw [h6]
 try rw [h7]
 exact kF 1 0 [2]
 refine aT [2] [(2,aB false)] ?_
 show Wk _ _
 try rw [h1]
 try rw [h2]
 try rw [h3]
 try rw [h4]
 try rw [h5]
 try rw [h6]
 try rw [h7]
 exact kF 1 0 [2]
 refine aT [2] [(2,aB false)] ?_
 show Wk _ _
 try rw [h1]
 try rw [h2]
 try rw [h3]
 try rw [h4]
 try rw [h5]
 try rw [h6]
 exact kF 1 0 [2]
 refine aT [2] [(2,aB false)] ?_
 show Wk _ _
 try rw [h1]
 try rw [h2]
 try rw [h3]
 try rw [h4]
 try rw [h5]
 exact kF 1 0 [2]
 refine aT [2] [(2,aB false)] ?_
 show Wk _ _
 try rw [h1]
 try rw [h2]
 try rw [h3]
 try rw [h4]
 exact kF 1 0 [2]
 refine aT [2] [(2,aB false)] ?_
 show Wk _ _
 try rw [h1]
 try rw [h2]
 try rw [h3]
 exact kF 1 0 [2]
 refine aT [2] [(2,aB false)] ?_
 show Wk _ _
 try rw [h1]
 try rw [h2]
 exact kF 1 0 [2]
 refine aT [2] [(2,aB false)] ?_
 show Wk _ _
 try rw [h1]
 exact kF 1 0 [2]
 refine kR ?_
 exact ⟨[.bool ((aU g.src 16) && ((aU g.dst 16) && ((aU g.window 16) && ((aU g.seq 32) && ((aU g.ack 32) && ((aU g.flags 6) && ((bl g.o) && (decide ((g.body.size : Int) ≤ 1420)))))))))],by kernel_rfl,fun w' hb hf => ⟨au (show ((aU g.src 16) && ((aU g.dst 16) && ((aU g.window 16) && ((aU g.seq 32) && ((aU g.ack 32) && ((aU g.flags 6) && ((bl g.o) && (decide ((g.body.size : Int) ≤ 1420)))))))) : Bool) = dO g from by first | rfl | (simp [dO, *]; done) | (simp [dO, *]; omega) | grind [bt,dO]),hb⟩⟩
theorem fq (c : Con) (rV : Value) (w : World) (hZ : Sl w rV 2 (c.r.held.map pC)) (hsz : c.r.data.size ≤ 4611686018427387904) : Calls Tryz.prog 101 #[.agg (a6 c rV).toArray] w fun e w' => e = .returned (.agg #[iI c.t.my, iI c.t.port, iI (ac c.s), iI c.r.next, iI 16, iI (wO c.r), iI 0, iI (-1), .bool false, .bool false, iI 0, iI 0, .string (⟨#[]⟩ : ByteArray)]) ∧ Below w.heap.size w w' := by
 obtain ⟨Z,Y,hY⟩ := hZ.form
 rw [List.length_map] at hY; subst hY
 have hJ := hZ.len; rw [List.length_map] at hJ
 have hqcrh := Sl.capLe hZ
 refine bZ (args := [.agg (a6 c (cS Z c Y)).toArray]) (fn := Tryz.f101) [cH Z c Y] Tryz.func101 rfl Tryz.ntmps101 rfl (by simp only [List.mem_cons,List.not_mem_nil,or_false,forall_eq_or_imp,forall_eq]; exact ⟨rfl,hZ⟩) ?_
 refine kQ <| cm [1,2] ⟨[(1,.p 0 0),(2,.p 1 0)],[⟨41,a6 c (cS Z c Y)⟩,⟨105,eJ⟩],[],[cH Z c Y]⟩ <| kS <| bN [true,false] (by kernel_rfl) (fun ρ σ => ?_)
 refine cJ [0,1,2,3,4,5,6,7,9,10,11,12,13] [16,14,10,8,5,2] 5 [(16,.v (.agg (ag c.r (cS Z c Y)).toArray)),(14,aI c.r.next),(10,.v (.agg (ai c.s).toArray)),(8,aI c.t.port),(5,aI c.t.my),(2,.p 1 0)] <| kA [8] <| du 8 121 [.agg (ai c.s).toArray] (some 11) rfl (aA fun ww hf => sNextOf_c c.s.una c.s.data c.s.sent c.s.fin c.s.finSent c.s.done ww ) ?_
 intro _
 refine kA [14] <| du 14 92 [.agg (ag c.r (cS Z c Y)).toArray] (some 17) rfl (aA fun ww hf => eX c.r.next c.r.data c.r.held (cS Z c Y) c.r.fin c.r.done ww (by omega)) ?_
 intro _
 refine kA [15] <| du 15 94 [] (some 18) rfl (aA fun ww hf => f3  ww ) ?_
 intro _
 refine kX 16 (.agg #[iI c.t.my,iI c.t.port,iI (ac c.s),iI c.r.next,iI 16,iI (wO c.r),iI 0,iI (-1),.bool false,.bool false,iI 0,iI 0,.string (⟨#[]⟩ : ByteArray)]) rfl (fun _ _ ww hA => bn [(0,iI c.t.my),(1,iI c.t.port),(2,iI (ac c.s)),(3,iI c.r.next),(4,iI 16),(5,iI (wO c.r)),(6,.agg #[iI 0,iI (-1),.bool false,.bool false,iI 0,iI 0])] hA rfl (by kernel_rfl) (by kernel_rfl) ww) ?_
 refine kA [17] <| dg 17 1 0 [iI c.t.my,iI c.t.port,iI (ac c.s),iI c.r.next,iI 16,iI (wO c.r),iI 0,iI (-1),.bool false,.bool false,iI 0,iI 0,.string (⟨#[]⟩ : ByteArray)] rfl <| kZ <| kR ?_
 exact ⟨[.agg #[iI c.t.my,iI c.t.port,iI (ac c.s),iI c.r.next,iI 16,iI (wO c.r),iI 0,iI (-1),.bool false,.bool false,iI 0,iI 0,.string (⟨#[]⟩ : ByteArray)]],by kernel_rfl,fun w' hb hf => ⟨rfl,hb⟩⟩
theorem ysAcceptable_c (c : Con) (rV : Value) (g : Seg) (w : World) (hZ : Sl w rV 2 (c.r.held.map pC)) (hsz : c.r.data.size ≤ 4611686018427387904) (hgz : g.body.size ≤ 1048576) : Calls Tryz.prog 124 #[.agg (a6 c rV).toArray, .agg (cl g).toArray] w fun e w' => e = .returned (.bool (dT c g)) ∧ Below w.heap.size w w' := by
 have hlz := segLen_le hgz
 obtain ⟨Z,Y,hY⟩ := hZ.form
 rw [List.length_map] at hY; subst hY
 have hJ := hZ.len; rw [List.length_map] at hJ
 have hqcrh := Sl.capLe hZ
 refine bZ (args := [.agg (a6 c (cS Z c Y)).toArray,.agg (cl g).toArray]) (fn := Tryz.f124) [cH Z c Y] Tryz.func124 rfl Tryz.ntmps124 rfl (by simp only [List.mem_cons,List.not_mem_nil,or_false,forall_eq_or_imp,forall_eq]; exact ⟨rfl,hZ⟩) ?_
 refine kQ <| cm [2,3] ⟨[(2,.p 0 0),(3,.p 1 0)],[⟨41,a6 c (cS Z c Y)⟩,⟨105,cl g⟩],[],[cH Z c Y]⟩ <| kQ <| dN 1 [2,3,7] [(2,.p 0 0),(3,.p 1 0),(7,.v (.agg (cl g).toArray))] 107 [.agg (cl g).toArray] (some 8) rfl (aA fun ww hf => gd g.src g.dst g.seq g.ack g.flags g.window g.o.mss g.o.scale g.o.sack g.o.stamp g.o.val g.o.echo g.body ww (by omega)) ?_
 intro _
 refine aT [2,3,5] [(2,.p 0 0),(3,.p 1 0),(5,aI (dr g))] <| kQ <| dN 2 [2,3,5,10] [(2,.p 0 0),(3,.p 1 0),(5,aI (dr g)),(10,.v (.agg (ag c.r (cS Z c Y)).toArray))] 92 [.agg (ag c.r (cS Z c Y)).toArray] (some 11) rfl (aA fun ww hf => eX c.r.next c.r.data c.r.held (cS Z c Y) c.r.fin c.r.done ww (by omega)) ?_
 intro _
 refine aT [2,3,5,6] [(2,.p 0 0),(3,.p 1 0),(5,aI (dr g)),(6,aI (wO c.r))] <| kS <| kQ <| aT [2,3,5,6,13] [(2,.p 0 0),(3,.p 1 0),(5,aI (dr g)),(6,aI (wO c.r)),(13,aB ((dr g) == 0))] ?_
 refine kC ((dr g) == 0) (fun h1 => ?_) (fun h1 => ?_)
 have h1p := cI h1
 refine kS <| ba ⟨[(4,aB (((aR g.seq c.r.next) == 0) || (cY g.seq c.r.next (wO c.r))))],[⟨41,a6 c (cS Z c Y)⟩,⟨105,cl g⟩],[],[cH Z c Y]⟩ ?_ ?_
 refine kG <| dN 5 [2,3,6,15,18] [(2,.p 0 0),(3,.p 1 0),(6,aI (wO c.r)),(15,aI g.seq),(18,aI c.r.next)] 128 [iI g.seq,iI c.r.next] (some 19) rfl (c6 fun ww hf => sSeqDiff_c g.seq c.r.next ww ) ?_
 intro _
 refine dt 2 [2,3,6,21] [(2,.p 0 0),(3,.p 1 0),(6,aI (wO c.r)),(21,aB ((aR g.seq c.r.next) == 0))] <| kP 21 ((aR g.seq c.r.next) == 0) (fun h2 => ?_) (fun h2 => ?_)
 have h2p := cI h2
 refine aT [4] [(4,aB true)] ?_
 show Wk _ _
 try rw [h2]
 exact kF 2 0 [4]
 have h2p := cB h2
 refine dN 6 [21,23,26,27] [(21,aB false),(23,aI g.seq),(26,aI c.r.next),(27,aI (wO c.r))] 123 [iI g.seq,iI c.r.next,iI (wO c.r)] (some 28) rfl (c6 fun ww hf => sInWindow_c g.seq c.r.next (wO c.r) ww ) ?_
 intro _
 refine aT [4] [(4,aB (cY g.seq c.r.next (wO c.r)))] ?_
 show Wk _ _
 try rw [h2]
 exact kF 2 0 [4]
 refine kR ?_
 exact ⟨[.bool (((aR g.seq c.r.next) == 0) || (cY g.seq c.r.next (wO c.r)))],by kernel_rfl,fun w' hb hf => ⟨au (show (((aR g.seq c.r.next) == 0) || (cY g.seq c.r.next (wO c.r)) : Bool) = dT c g from by first | rfl | (simp [dT, *]; done) | grind [dT]),hb⟩⟩
 have h1p := cB h1
 refine kK <| kQ <| dN 7 [31,32,35,36] [(31,aI g.seq),(32,aI (dr g)),(35,aI c.r.next),(36,aI (wO c.r))] 132 [iI g.seq,iI (dr g),iI c.r.next,iI (wO c.r)] (some 37) rfl (c6 fun ww hf => sOverlaps_c g.seq (dr g) c.r.next (wO c.r) ww (by omega)) ?_
 intro _
 refine aT [4] [(4,aB (dC g.seq (dr g) c.r.next (wO c.r)))] <| kR ?_
 exact ⟨[.bool (dC g.seq (dr g) c.r.next (wO c.r))],by kernel_rfl,fun w' hb hf => ⟨au (show (dC g.seq (dr g) c.r.next (wO c.r) : Bool) = dT c g from by first | rfl | (simp [dT, *]; done) | grind [dT]),hb⟩⟩
theorem ysVerdict_c (c : Con) (rV : Value) (g : Seg) (w : World) (hZ : Sl w rV 2 (c.r.held.map pC)) (hgz : g.body.size ≤ 1048576) (hm : ∀ p ∈ c.r.held, p.text.size ≤ 1048576) (hsz : c.r.data.size ≤ 4611686018427387904) : Calls Tryz.prog 104 #[.agg (a6 c rV).toArray, .agg (cl g).toArray] w fun e w' => e = .returned (iI (aw c g)) ∧ Below w.heap.size w w' := by
 obtain ⟨Z,Y,hY⟩ := hZ.form
 rw [List.length_map] at hY; subst hY
 have hJ := hZ.len; rw [List.length_map] at hJ
 have hqcrh := Sl.capLe hZ
 refine bZ (args := [.agg (a6 c (cS Z c Y)).toArray,.agg (cl g).toArray]) (fn := Tryz.f104) [cH Z c Y] Tryz.func104 rfl Tryz.ntmps104 rfl (by simp only [List.mem_cons,List.not_mem_nil,or_false,forall_eq_or_imp,forall_eq]; exact ⟨rfl,hZ⟩) ?_
 refine kQ <| cm [2,3] ⟨[(2,.p 0 0),(3,.p 1 0)],[⟨41,a6 c (cS Z c Y)⟩,⟨105,cl g⟩],[],[cH Z c Y]⟩ <| kS <| ao <| kS <| ba ⟨[(2,.p 0 0),(3,.p 1 0),(5,aB ((!(aX c)) || ((c.state == 8) || (!(dO g)))))],[⟨41,a6 c (cS Z c Y)⟩,⟨105,cl g⟩],[],[cH Z c Y]⟩ ?_ ?_
 refine kG <| dN 1 [2,3,6] [(2,.p 0 0),(3,.p 1 0),(6,.v (.agg (a6 c (cS Z c Y)).toArray))] 37 [.agg (a6 c (cS Z c Y)).toArray] (some 7) rfl (aA fun ww hf => e8 c (cS Z c Y) ww (hf _ m0) (by assumption) (by omega)) ?_
 intro _
 refine dt 2 [2,3,9] [(2,.p 0 0),(3,.p 1 0),(9,aB (!(aX c)))] <| kP 9 (!(aX c)) (fun h1 => ?_) (fun h1 => ?_)
 have h1n := bS h1
 refine aT [2,3,5] [(2,.p 0 0),(3,.p 1 0),(5,aB true)] ?_
 show Wk _ _
 try rw [h1]
 exact kF 2 0 [2,3,5]
 have h1n := aF h1
 refine dt 5 [2,3,14] [(2,.p 0 0),(3,.p 1 0),(14,aB (c.state == 8))] <| kP 14 (c.state == 8) (fun h2 => ?_) (fun h2 => ?_)
 have h2p := cI h2
 refine aT [2,3,5] [(2,.p 0 0),(3,.p 1 0),(5,aB true)] ?_
 show Wk _ _
 try rw [h1]
 try rw [h2]
 exact kF 2 0 [2,3,5]
 have h2p := cB h2
 refine dN 1 [2,3,14,15] [(2,.p 0 0),(3,.p 1 0),(14,aB false),(15,.v (.agg (cl g).toArray))] 122 [.agg (cl g).toArray] (some 16) rfl (aA fun ww hf => ysSegmentOk_c g ww (by first | omega | exact Nat.zero_le _)) ?_
 intro _
 refine aT [2,3,5] [(2,.p 0 0),(3,.p 1 0),(5,aB (!(dO g)))] ?_
 show Wk _ _
 try rw [h1]
 try rw [h2]
 exact kF 2 0 [2,3,5]
 refine kC ((!(aX c)) || ((c.state == 8) || (!(dO g)))) (fun h3 => ?_) (fun h3 => ?_)
 refine kQ <| aT [4] [(4,aI 1)] <| kR ?_
 have hmod : aw c g = 1 := by first | rfl | (simp [aw, *]; done) | grind [aw]
 exact ⟨[iI 1],by kernel_rfl,fun w' hb hf => by rw [hmod]; exact ⟨rfl,hb⟩⟩
 have h3l := fa h3
 have h3ln := aF h3l
 have h3r := fc h3
 have h3rl := fa h3r
 have h3rlp := cB h3rl
 have h3rr := fc h3r
 have h3rrn := aF h3rr
 refine kS <| ba ⟨[(2,.p 0 0),(3,.p 1 0),(19,aB ((dy g.flags 4) && (g.seq == c.r.next)))],[⟨41,a6 c (cS Z c Y)⟩,⟨105,cl g⟩],[],[cH Z c Y]⟩ ?_ ?_
 refine kG <| dN 1 [2,3,20] [(2,.p 0 0),(3,.p 1 0),(20,.v (.agg (cl g).toArray))] 105 [.agg (cl g).toArray,iI 4] (some 21) rfl (aA fun ww hf => sHas_c g.src g.dst g.seq g.ack g.flags g.window g.o.mss g.o.scale g.o.sack g.o.stamp g.o.val g.o.echo g.body 4 ww ) ?_
 intro _
 refine dt 1 [2,3,22] [(2,.p 0 0),(3,.p 1 0),(22,aB (dy g.flags 4))] <| kP 22 (dy g.flags 4) (fun h4 => ?_) (fun h4 => ?_)
 refine aT [2,3,19] [(2,.p 0 0),(3,.p 1 0),(19,aB (g.seq == c.r.next))] ?_
 show Wk _ _
 try rw [h4]
 exact kF 2 0 [2,3,19]
 refine aT [2,3,19] [(2,.p 0 0),(3,.p 1 0),(19,aB false)] ?_
 show Wk _ _
 try rw [h4]
 exact kF 2 0 [2,3,19]
 refine kC ((dy g.flags 4) && (g.seq == c.r.next)) (fun h5 => ?_) (fun h5 => ?_)
 have h5l := and_l h5
 have h5r := and_r h5
 have h5rp := cI h5r
 refine kQ <| aT [4] [(4,aI 2)] <| kR ?_
 have hmod : aw c g = 2 := by first | rfl | (simp [aw, *]; done) | grind [aw]
 exact ⟨[iI 2],by kernel_rfl,fun w' hb hf => by rw [hmod]; exact ⟨rfl,hb⟩⟩
 refine kS <| ba ⟨[(2,.p 0 0),(3,.p 1 0),(30,aB ((dy g.flags 4) && (cY g.seq c.r.next (wO c.r))))],[⟨41,a6 c (cS Z c Y)⟩,⟨105,cl g⟩],[],[cH Z c Y]⟩ ?_ ?_
 refine bN [] (by kernel_rfl) (fun ρ σ => ?_)
 refine cJ [0] [31,2,3] 13 [(31,.v (.agg (cl g).toArray)),(2,.p 0 0),(3,.p 1 0)] <| kA [1] <| du 1 105 [.agg (cl g).toArray,iI 4] (some 32) rfl (aA fun ww hf => sHas_c g.src g.dst g.seq g.ack g.flags g.window g.o.mss g.o.scale g.o.sack g.o.stamp g.o.val g.o.echo g.body 4 ww ) ?_
 intro _
 refine cJ [2] [33,2,3] 11 [(33,aB (dy g.flags 4)),(2,.p 0 0),(3,.p 1 0)] <| kY 33 (dy g.flags 4) (fun h6 => ?_) (fun h6 => ?_)
 refine cJ [3,4,5,6,7,8,9] [40,38,35,33,2,3] 4 [(40,.v (.agg (ag c.r (cS Z c Y)).toArray)),(38,aI c.r.next),(35,aI g.seq),(33,aB true),(2,.p 0 0),(3,.p 1 0)] <| kA [10] <| du 10 92 [.agg (ag c.r (cS Z c Y)).toArray] (some 41) rfl (aA fun ww hf => eX c.r.next c.r.data c.r.held (cS Z c Y) c.r.fin c.r.done ww (by omega)) ?_
 intro _
 refine kA [11] <| du 11 123 [iI g.seq,iI c.r.next,iI (wO c.r)] (some 42) rfl (c6 fun ww hf => sInWindow_c g.seq c.r.next (wO c.r) ww ) ?_
 intro _
 refine cJ [12,13] [30,2,3] 0 [(30,aB (cY g.seq c.r.next (wO c.r))),(2,.p 0 0),(3,.p 1 0)] <| kZ ?_
 show Wk _ _
 try rw [h6]
 exact kF 2 0 [2,3,30]
 refine cJ [3,4,5,6,7,8,9,10,11,12,13] [30,2,3] 0 [(30,aB false),(2,.p 0 0),(3,.p 1 0)] <| kZ ?_
 show Wk _ _
 try rw [h6]
 exact kF 2 0 [2,3,30]
 refine kC ((dy g.flags 4) && (cY g.seq c.r.next (wO c.r))) (fun h7 => ?_) (fun h7 => ?_)
 have h7l := and_l h7
 have h7r := and_r h7
 refine kQ <| aT [4] [(4,aI 3)] <| kR ?_
 have hmod : aw c g = 3 := by first | rfl | (simp [aw, *]; done) | grind [aw]
 exact ⟨[iI 3],by kernel_rfl,fun w' hb hf => by rw [hmod]; exact ⟨rfl,hb⟩⟩
 refine kQ <| dN 1 [2,3,45] [(2,.p 0 0),(3,.p 1 0),(45,.v (.agg (cl g).toArray))] 105 [.agg (cl g).toArray,iI 4] (some 46) rfl (aA fun ww hf => sHas_c g.src g.dst g.seq g.ack g.flags g.window g.o.mss g.o.scale g.o.sack g.o.stamp g.o.val g.o.echo g.body 4 ww ) ?_
 intro _
 refine aT [2,3,44] [(2,.p 0 0),(3,.p 1 0),(44,aB (dy g.flags 4))] <| kC (dy g.flags 4) (fun h8 => ?_) (fun h8 => ?_)
 refine kQ <| aT [4] [(4,aI 1)] <| kR ?_
 have hmod : aw c g = 1 := by first | rfl | (simp [aw, *]; done) | grind [aw]
 exact ⟨[iI 1],by kernel_rfl,fun w' hb hf => by rw [hmod]; exact ⟨rfl,hb⟩⟩
 refine kQ <| dN 1 [2,3,48] [(2,.p 0 0),(3,.p 1 0),(48,.v (.agg (cl g).toArray))] 105 [.agg (cl g).toArray,iI 2] (some 49) rfl (aA fun ww hf => sHas_c g.src g.dst g.seq g.ack g.flags g.window g.o.mss g.o.scale g.o.sack g.o.stamp g.o.val g.o.echo g.body 2 ww ) ?_
 intro _
 refine aT [2,3,47] [(2,.p 0 0),(3,.p 1 0),(47,aB (dy g.flags 2))] <| kC (dy g.flags 2) (fun h9 => ?_) (fun h9 => ?_)
 refine kQ <| aT [4] [(4,aI 3)] <| kR ?_
 have hmod : aw c g = 3 := by first | rfl | (simp [aw, *]; done) | grind [aw]
 exact ⟨[iI 3],by kernel_rfl,fun w' hb hf => by rw [hmod]; exact ⟨rfl,hb⟩⟩
 refine kQ <| dN 2 [2,3,51,52] [(2,.p 0 0),(3,.p 1 0),(51,.v (.agg (a6 c (cS Z c Y)).toArray)),(52,.v (.agg (cl g).toArray))] 124 [.agg (a6 c (cS Z c Y)).toArray,.agg (cl g).toArray] (some 53) rfl (aA fun ww hf => ysAcceptable_c c (cS Z c Y) g ww (hf _ m0) (by first | omega | (dsimp only; omega)) (by first | omega | assumption)) ?_
 intro _
 refine aT [2,3,50] [(2,.p 0 0),(3,.p 1 0),(50,aB (!(dT c g)))] <| kC (!(dT c g)) (fun h10 => ?_) (fun h10 => ?_)
 have h10n := bS h10
 refine kQ <| aT [4] [(4,aI 4)] <| kR ?_
 have hmod : aw c g = 4 := by first | rfl | (simp [aw, *]; done) | grind [aw]
 exact ⟨[iI 4],by kernel_rfl,fun w' hb hf => by rw [hmod]; exact ⟨rfl,hb⟩⟩
 have h10n := aF h10
 refine kQ <| dN 1 [2,3,56] [(2,.p 0 0),(3,.p 1 0),(56,.v (.agg (cl g).toArray))] 105 [.agg (cl g).toArray,iI 16] (some 57) rfl (aA fun ww hf => sHas_c g.src g.dst g.seq g.ack g.flags g.window g.o.mss g.o.scale g.o.sack g.o.stamp g.o.val g.o.echo g.body 16 ww ) ?_
 intro _
 refine aT [2,3,55] [(2,.p 0 0),(3,.p 1 0),(55,aB (!(dy g.flags 16)))] <| kC (!(dy g.flags 16)) (fun h11 => ?_) (fun h11 => ?_)
 have h11n := bS h11
 refine kQ <| aT [4] [(4,aI 1)] <| kR ?_
 have hmod : aw c g = 1 := by first | rfl | (simp [aw, *]; done) | grind [aw]
 exact ⟨[iI 1],by kernel_rfl,fun w' hb hf => by rw [hmod]; exact ⟨rfl,hb⟩⟩
 have h11n := aF h11
 refine kQ <| dN 3 [60,62] [(60,.v (.agg (a6 c (cS Z c Y)).toArray)),(62,aI g.ack)] 125 [.agg (a6 c (cS Z c Y)).toArray,iI g.ack] (some 63) rfl (aA fun ww hf => sAckFits_c c.t.ip c.t.port c.t.my c.state c.s.una c.s.data c.s.sent c.s.fin c.s.finSent c.s.done c.r.next c.r.data c.r.held (cS Z c Y) c.r.fin c.r.done c.window c.most c.o.mss c.o.scale c.o.sack c.o.stamp c.o.val c.o.echo c.timer c.tries g.ack ww ) ?_
 intro _
 refine aT [59] [(59,aB (!(fQ c g.ack)))] <| kC (!(fQ c g.ack)) (fun h12 => ?_) (fun h12 => ?_)
 have h12n := bS h12
 refine kQ <| aT [4] [(4,aI 3)] <| kR ?_
 have hmod : aw c g = 3 := by first | rfl | (simp [aw, *]; done) | grind [aw]
 exact ⟨[iI 3],by kernel_rfl,fun w' hb hf => by rw [hmod]; exact ⟨rfl,hb⟩⟩
 have h12n := aF h12
 refine kK <| kQ <| aT [4] [(4,aI 5)] <| kR ?_
 have hmod : aw c g = 5 := by first | rfl | (simp [aw, *]; done) | grind [aw]
 exact ⟨[iI 5],by kernel_rfl,fun w' hb hf => by rw [hmod]; exact ⟨rfl,hb⟩⟩
theorem yClonePiece_c (a : List Pce) (aV : Value) (w : World) (hl_aV : Sl w aV 2 (a.map pC)) (hkn : a.length ≤ 1048576) (B : Nat) (hB : B ≤ w.heap.size) : Calls Tryz.prog 88 #[aV] w fun e w' => XRs w w' e (α := Option Addr × Nat) (fun y => .slice y.1 a.length y.2) (fun y => [bm B (.slice y.1 a.length y.2) 2 (a.map pC)]) := by
 obtain ⟨Aa,Ca,hva⟩ := hl_aV.form
 rw [List.length_map] at hva; subst hva
 have hna := hl_aV.len; rw [List.length_map] at hna
 have hqa := Sl.capLe hl_aV
 have hnil := fun h => Sl.nil_of h hl_aV
 refine cn (args := [.slice Aa a.length Ca]) (fn := Tryz.f88) [aJ (.slice Aa a.length Ca) 2 (a.map pC)] Tryz.func88 rfl Tryz.ntmps88 rfl (by simp only [List.mem_cons,List.not_mem_nil,or_false,forall_eq_or_imp,forall_eq]; exact ⟨rfl,hl_aV⟩) ?_
 refine kQ <| cm [0] ⟨[(0,.v (.slice Aa a.length Ca))],[],[],[aJ (.slice Aa a.length Ca) 2 (a.map pC)]⟩ <| kS <| kQ <| kOS 1 [0,3] [(0,.v (.slice Aa a.length Ca)),(3,.v (.slice Aa a.length Ca))] (.bool Aa.isNone) rfl (fun _ _ _ ww hr => act_nilEq (e := 89) hr.1 rfl (by kernel_rfl) rfl rfl ww) ?_
 refine aT [0,4] [(0,.v (.slice Aa a.length Ca)),(4,aB Aa.isNone)] <| kC (Aa.isNone) (fun h1 => ?_) (fun h1 => ?_)
 refine kQ <| aT [2] [(2,.v (.slice none 0 0))] <| kR ?_
 have hmod : a = [] := by exact hnil (by assumption)
 exact ⟨[.slice none 0 0],by kernel_rfl,fun w' hb hf ha => by rw [hmod]; exact xo1 ((none,0)) rfl rfl ⟨.inl ⟨rfl,_,rfl⟩,fun b hb => (hb.1 rfl).elim⟩ hb⟩
 refine kK <| kQ <| kHS 0 [0] [(0,.v (.slice Aa a.length Ca))] rfl (aH (e := 89) (K := 2) (bytes := 24) [] (rs := ([] : List Pce).map pC) rfl rfl) ?_
 intro g2
 refine kHS 1 [5,6] [(5,.v (.slice (some ⟨g2,0,none⟩) 0 0)),(6,.v (.slice Aa a.length Ca))] rfl (aE (e := 89) (K := 2) (bytes := 24) (i := 0) (q := a.length) (new := a.map pC) (rs' := a.map pC) rfl rfl rfl rfl (by kernel_rfl) (by kernel_rfl) (by kernel_rfl) rfl (by simp) rfl (by simp) (fun ww hf => (hf (aJ (.slice Aa a.length Ca) 2 (a.map pC)) (by simp))) (by intro r hr; obtain ⟨x,hx,rfl⟩ := List.mem_map.1 hr; exact ⟨rfl,by simp [pC,Value.oneCell']⟩) (by (try simp only [List.length_map,List.length_append,List.length_cons,List.length_nil,List.length_take,List.length_drop,maxLen]); omega) (by (try simp only [List.length_map,List.length_append,List.length_cons,List.length_nil,List.length_take,List.length_drop,maxLen]); omega)) ?_
 rintro ⟨v3a,v3c⟩
 refine aT [2] [(2,.v (.slice v3a a.length v3c))] <| kR ?_
 exact ⟨[.slice v3a a.length v3c],by kernel_rfl,fun w' hb hf ha => by exact xo1 ((v3a,v3c)) rfl rfl (pR (hf _ m0) hB) hb⟩
theorem gw (r : Rcv) (r_heldV : Value) (w : World) (hl_r_heldV : Sl w r_heldV 2 (r.held.map pC)) (hkn : r.held.length ≤ 1048576) (B : Nat) (hB : B ≤ w.heap.size) : Calls Tryz.prog 51 #[.agg (ag r r_heldV).toArray] w fun e w' => XRs w w' e (α := Option Addr × Nat) (fun y => .agg (ag r (.slice y.1 r.held.length y.2)).toArray) (fun y => [a9 B 89 2 (.slice y.1 r.held.length y.2) (r.held.map pC)]) := by
 obtain ⟨Arh,Crh,hvrh⟩ := hl_r_heldV.form
 rw [List.length_map] at hvrh; subst hvrh
 have hnrh := hl_r_heldV.len; rw [List.length_map] at hnrh
 have hqrh := Sl.capLe hl_r_heldV
 refine cn (args := [.agg (ag r (.slice Arh r.held.length Crh)).toArray]) (fn := Tryz.f51) [aJ (.slice Arh r.held.length Crh) 2 (r.held.map pC)] Tryz.func51 rfl Tryz.ntmps51 rfl (by simp only [List.mem_cons,List.not_mem_nil,or_false,forall_eq_or_imp,forall_eq]; exact ⟨rfl,hl_r_heldV⟩) ?_
 refine kQ <| cm [1,2] ⟨[(1,.p 0 0),(2,.p 1 0)],[⟨37,ag r (.slice Arh r.held.length Crh)⟩,⟨37,eD⟩],[],[aJ (.slice Arh r.held.length Crh) 2 (r.held.map pC)]⟩ <| kQ <| kHS 0 [1,2] [(1,.p 0 0),(2,.p 1 0)] rfl (aH (e := 89) (K := 2) (bytes := 24) [] (rs := ([] : List Pce).map pC) rfl rfl) ?_
 intro g1
 refine kHS 2 [1,2,3,5] [(1,.p 0 0),(2,.p 1 0),(3,.v (.slice (some ⟨g1,0,none⟩) 0 0)),(5,.v (.slice Arh r.held.length Crh))] rfl (aE (e := 89) (K := 2) (bytes := 24) (i := 0) (q := r.held.length) (new := r.held.map pC) (rs' := r.held.map pC) rfl rfl rfl rfl (by kernel_rfl) (by kernel_rfl) (by kernel_rfl) rfl (by simp) rfl (by simp) (fun ww hf => (hf (aJ (.slice Arh r.held.length Crh) 2 (r.held.map pC)) (by simp))) (by intro r hr; obtain ⟨x,hx,rfl⟩ := List.mem_map.1 hr; exact ⟨rfl,by simp [pC,Value.oneCell']⟩) (by (try simp only [List.length_map,List.length_append,List.length_cons,List.length_nil,List.length_take,List.length_drop,maxLen]); omega) (by (try simp only [List.length_map,List.length_append,List.length_cons,List.length_nil,List.length_take,List.length_drop,maxLen]); omega)) ?_
 rintro ⟨v2a,v2c⟩
 refine cm [1,2] ⟨[(1,.p 0 0),(2,.p 1 0)],[⟨37,ag r (.slice v2a r.held.length v2c)⟩,⟨37,eD⟩],[],[a9 w.heap.size 89 2 (.slice v2a r.held.length v2c) (r.held.map pC),aJ (.slice Arh r.held.length Crh) 2 (r.held.map pC)]⟩ <| kQ <| cm [2] ⟨[(2,.p 1 0)],[⟨37,ag r (.slice v2a r.held.length v2c)⟩,⟨37,ag r (.slice v2a r.held.length v2c)⟩],[],[a9 w.heap.size 89 2 (.slice v2a r.held.length v2c) (r.held.map pC),aJ (.slice Arh r.held.length Crh) 2 (r.held.map pC)]⟩ <| kR ?_
 exact ⟨[.agg (ag r (.slice v2a r.held.length v2c)).toArray],by kernel_rfl,fun w' hb hf ha => by exact xo1 ((v2a,v2c)) rfl rfl (pW (hf _ m0) hB) hb⟩
theorem ycloneReceiver_c (r : Rcv) (r_heldV : Value) (w : World) (hl_r_heldV : Sl w r_heldV 2 (r.held.map pC)) (hkn : r.held.length ≤ 1048576) (B : Nat) (hB : B ≤ w.heap.size) : Calls Tryz.prog 57 #[.agg (ag r r_heldV).toArray] w fun e w' => XRs w w' e (α := Option Addr × Nat) (fun y => .agg (ag r (.slice y.1 r.held.length y.2)).toArray) (fun y => [bm B (.slice y.1 r.held.length y.2) 2 (r.held.map pC)]) := by
 obtain ⟨Arh,Crh,hvrh⟩ := hl_r_heldV.form
 rw [List.length_map] at hvrh; subst hvrh
 have hnrh := hl_r_heldV.len; rw [List.length_map] at hnrh
 have hqrh := Sl.capLe hl_r_heldV
 refine cn (args := [.agg (ag r (.slice Arh r.held.length Crh)).toArray]) (fn := Tryz.f57) [aJ (.slice Arh r.held.length Crh) 2 (r.held.map pC)] Tryz.func57 rfl Tryz.ntmps57 rfl (by simp only [List.mem_cons,List.not_mem_nil,or_false,forall_eq_or_imp,forall_eq]; exact ⟨rfl,hl_r_heldV⟩) ?_
 refine kQ <| cm [1,2] ⟨[(1,.p 0 0),(2,.p 1 0)],[⟨37,ag r (.slice Arh r.held.length Crh)⟩,⟨37,eD⟩],[],[aJ (.slice Arh r.held.length Crh) 2 (r.held.map pC)]⟩ <| kQ <| dN 2 [1,2,4] [(1,.p 0 0),(2,.p 1 0),(4,.v (.slice Arh r.held.length Crh))] 88 [.slice Arh r.held.length Crh] (some 5) rfl (cb fun ww hw hf => yClonePiece_c r.held (.slice Arh r.held.length Crh) ww (hf _ m0) (by assumption) w.heap.size hw) ?_
 rintro ⟨v1a,v1c⟩
 refine cm [1,2] ⟨[(1,.p 0 0),(2,.p 1 0)],[⟨37,ag r (.slice v1a r.held.length v1c)⟩,⟨37,eD⟩],[],[bm w.heap.size (.slice v1a r.held.length v1c) 2 (r.held.map pC),aJ (.slice Arh r.held.length Crh) 2 (r.held.map pC)]⟩ <| kQ <| cm [2] ⟨[(2,.p 1 0)],[⟨37,ag r (.slice v1a r.held.length v1c)⟩,⟨37,ag r (.slice v1a r.held.length v1c)⟩],[],[bm w.heap.size (.slice v1a r.held.length v1c) 2 (r.held.map pC),aJ (.slice Arh r.held.length Crh) 2 (r.held.map pC)]⟩ <| kR ?_
 exact ⟨[.agg (ag r (.slice v1a r.held.length v1c)).toArray],by kernel_rfl,fun w' hb hf ha => by exact xo1 ((v1a,v1c)) rfl rfl (pO (hf _ m0) hB) hb⟩
theorem d2 (c : Con) (rV : Value) (w : World) (hZ : Sl w rV 2 (c.r.held.map pC)) (hkn : c.r.held.length ≤ 1048576) (B : Nat) (hB : B ≤ w.heap.size) : Calls Tryz.prog 28 #[.agg (a6 c rV).toArray] w fun e w' => XRs w w' e (α := Option Addr × Nat) (fun y => .agg (a6 c (.slice y.1 c.r.held.length y.2)).toArray) (fun y => [bm B (.slice y.1 c.r.held.length y.2) 2 (c.r.held.map pC)]) := by
 obtain ⟨Z,Y,hY⟩ := hZ.form
 rw [List.length_map] at hY; subst hY
 have hJ := hZ.len; rw [List.length_map] at hJ
 have hqcrh := Sl.capLe hZ
 refine cn (args := [.agg (a6 c (cS Z c Y)).toArray]) (fn := Tryz.f28) [cH Z c Y] Tryz.func28 rfl Tryz.ntmps28 rfl (by simp only [List.mem_cons,List.not_mem_nil,or_false,forall_eq_or_imp,forall_eq]; exact ⟨rfl,hZ⟩) ?_
 refine kQ <| cm [1,2] ⟨[(1,.p 0 0),(2,.p 1 0)],[⟨41,a6 c (cS Z c Y)⟩,⟨41,cN⟩],[],[cH Z c Y]⟩ <| kQ <| dN 2 [1,2,4] [(1,.p 0 0),(2,.p 1 0),(4,.v (.agg (ag c.r (cS Z c Y)).toArray))] 51 [.agg (ag c.r (cS Z c Y)).toArray] (some 5) rfl (cb fun ww hw hf => gw c.r (cS Z c Y) ww (hf _ m0) (by assumption) w.heap.size hw) ?_
 rintro ⟨v1a,v1c⟩
 refine cm [1,2] ⟨[(1,.p 0 0),(2,.p 1 0)],[⟨41,a6 c (cS v1a c v1c)⟩,⟨41,cN⟩],[],[a9 w.heap.size 89 2 (cS v1a c v1c) (c.r.held.map pC),cH Z c Y]⟩ <| kQ <| cm [2] ⟨[(2,.p 1 0)],[⟨41,a6 c (cS v1a c v1c)⟩,⟨41,a6 c (cS v1a c v1c)⟩],[],[a9 w.heap.size 89 2 (cS v1a c v1c) (c.r.held.map pC),cH Z c Y]⟩ <| kR ?_
 exact ⟨[.agg (a6 c (cS v1a c v1c)).toArray],by kernel_rfl,fun w' hb hf ha => by exact xo1 ((v1a,v1c)) rfl rfl (pR (hf _ m0) hB) hb⟩
theorem fN (c : Con) (rV : Value) (w : World) (hZ : Sl w rV 2 (c.r.held.map pC)) (hkn : c.r.held.length ≤ 1048576) (B : Nat) (hB : B ≤ w.heap.size) : Calls Tryz.prog 31 #[.agg (a6 c rV).toArray] w fun e w' => XRs w w' e (α := Option Addr × Nat) (fun y => .agg (a6 c (.slice y.1 c.r.held.length y.2)).toArray) (fun y => [bm B (.slice y.1 c.r.held.length y.2) 2 (c.r.held.map pC)]) := by
 obtain ⟨Z,Y,hY⟩ := hZ.form
 rw [List.length_map] at hY; subst hY
 have hJ := hZ.len; rw [List.length_map] at hJ
 have hqcrh := Sl.capLe hZ
 refine cn (args := [.agg (a6 c (cS Z c Y)).toArray]) (fn := Tryz.f31) [cH Z c Y] Tryz.func31 rfl Tryz.ntmps31 rfl (by simp only [List.mem_cons,List.not_mem_nil,or_false,forall_eq_or_imp,forall_eq]; exact ⟨rfl,hZ⟩) ?_
 refine kQ <| cm [1,2] ⟨[(1,.p 0 0),(2,.p 1 0)],[⟨41,a6 c (cS Z c Y)⟩,⟨41,cN⟩],[],[cH Z c Y]⟩ <| kQ <| dN 2 [1,2,4] [(1,.p 0 0),(2,.p 1 0),(4,.v (.agg (ag c.r (cS Z c Y)).toArray))] 57 [.agg (ag c.r (cS Z c Y)).toArray] (some 5) rfl (cb fun ww hw hf => ycloneReceiver_c c.r (cS Z c Y) ww (hf _ m0) (by assumption) w.heap.size hw) ?_
 rintro ⟨v1a,v1c⟩
 refine cm [1,2] ⟨[(1,.p 0 0),(2,.p 1 0)],[⟨41,a6 c (cS v1a c v1c)⟩,⟨41,cN⟩],[],[bm w.heap.size (cS v1a c v1c) 2 (c.r.held.map pC),cH Z c Y]⟩ <| kQ <| cm [2] ⟨[(2,.p 1 0)],[⟨41,a6 c (cS v1a c v1c)⟩,⟨41,a6 c (cS v1a c v1c)⟩],[],[bm w.heap.size (cS v1a c v1c) 2 (c.r.held.map pC),cH Z c Y]⟩ <| kR ?_
 exact ⟨[.agg (a6 c (cS v1a c v1c)).toArray],by kernel_rfl,fun w' hb hf ha => by exact xo1 ((v1a,v1c)) rfl rfl (pO (hf _ m0) hB) hb⟩
theorem yCloneTuple_c (a : List Tup) (aV : Value) (w : World) (hl_aV : Sl w aV 3 (a.map a7)) (hkn : a.length ≤ 1048576) (B : Nat) (hB : B ≤ w.heap.size) : Calls Tryz.prog 49 #[aV] w fun e w' => XRs w w' e (α := Option Addr × Nat) (fun y => .slice y.1 a.length y.2) (fun y => [a9 B 32 3 (.slice y.1 a.length y.2) (a.map a7)]) := by
 obtain ⟨Aa,Ca,hva⟩ := hl_aV.form
 rw [List.length_map] at hva; subst hva
 have hna := hl_aV.len; rw [List.length_map] at hna
 have hqa := Sl.capLe hl_aV
 have hnil := fun h => Sl.nil_of h hl_aV
 refine cn (args := [.slice Aa a.length Ca]) (fn := Tryz.f49) [aJ (.slice Aa a.length Ca) 3 (a.map a7)] Tryz.func49 rfl Tryz.ntmps49 rfl (by simp only [List.mem_cons,List.not_mem_nil,or_false,forall_eq_or_imp,forall_eq]; exact ⟨rfl,hl_aV⟩) ?_
 refine kQ <| cm [0] ⟨[(0,.v (.slice Aa a.length Ca))],[],[],[aJ (.slice Aa a.length Ca) 3 (a.map a7)]⟩ <| kS <| kQ <| kOS 1 [0,3] [(0,.v (.slice Aa a.length Ca)),(3,.v (.slice Aa a.length Ca))] (.bool Aa.isNone) rfl (fun _ _ _ ww hr => act_nilEq (e := 32) hr.1 rfl (by kernel_rfl) rfl rfl ww) ?_
 refine aT [0,4] [(0,.v (.slice Aa a.length Ca)),(4,aB Aa.isNone)] <| kC (Aa.isNone) (fun h1 => ?_) (fun h1 => ?_)
 refine kQ <| aT [2] [(2,.v (.slice none 0 0))] <| kR ?_
 have hmod : a = [] := by exact hnil (by assumption)
 exact ⟨[.slice none 0 0],by kernel_rfl,fun w' hb hf ha => by rw [hmod]; exact xo1 ((none,0)) rfl rfl ⟨rowF_nil _ _ _ _,fun b hb => (nilF_b _ _ _ _ hb).elim⟩ hb⟩
 refine kK <| kQ <| kHS 0 [0] [(0,.v (.slice Aa a.length Ca))] rfl (aH (e := 32) (K := 3) (bytes := 24) [] (rs := ([] : List Tup).map a7) rfl rfl) ?_
 intro g2
 refine kHS 1 [5,6] [(5,.v (.slice (some ⟨g2,0,none⟩) 0 0)),(6,.v (.slice Aa a.length Ca))] rfl (aE (e := 32) (K := 3) (bytes := 24) (i := 0) (q := a.length) (new := a.map a7) (rs' := a.map a7) rfl rfl rfl rfl (by kernel_rfl) (by kernel_rfl) (by kernel_rfl) rfl (by simp) rfl (by simp) (fun ww hf => (hf (aJ (.slice Aa a.length Ca) 3 (a.map a7)) (by simp))) (by intro r hr; obtain ⟨x,hx,rfl⟩ := List.mem_map.1 hr; exact ⟨rfl,by simp [a7,Value.oneCell']⟩) (by (try simp only [List.length_map,List.length_append,List.length_cons,List.length_nil,List.length_take,List.length_drop,maxLen]); omega) (by (try simp only [List.length_map,List.length_append,List.length_cons,List.length_nil,List.length_take,List.length_drop,maxLen]); omega)) ?_
 rintro ⟨v3a,v3c⟩
 refine aT [2] [(2,.v (.slice v3a a.length v3c))] <| kR ?_
 exact ⟨[.slice v3a a.length v3c],by kernel_rfl,fun w' hb hf ha => by exact xo1 ((v3a,v3c)) rfl rfl (pW (hf _ m0) hB) hb⟩
end Go.Proofs.YtccijpdjfelbmaaGreat
