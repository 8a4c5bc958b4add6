/- Contracts that this law needs, part 1. -/
import Derived.Test.YtfidgfddgmppdaaYW
import Derived.Test.YtfidgfddgmppdaaA5
import Derived.Test.YtfidgfddgmppdaaG1
import Derived.Test.YtfidgfddgmppdaaYD
import Derived.Test.YtfidgfddgmppdaaG3
import Derived.Test.YtfidgfddgmppdaaA2
import Derived.Test.YtfidgfddgmppdaaG2
namespace Go.Proofs.Ytfidgfddgmppdaa
open Go.RowKit
set_option linter.unusedVariables false
set_option linter.unusedSimpArgs false
set_option maxRecDepth 100000
set_option maxHeartbeats 2000000
abbrev aI (x : Int) : AV := .v (.int .i64 x)
abbrev aB (x : Bool) : AV := .v (.bool x)
abbrev aP (x : Nat) : AV := .v (.pointer (some ⟨x, 0, none⟩))
abbrev gP (x : Nat) : Value := .pointer (some ⟨x, 0, none⟩)
abbrev iI (x : Int) : Value := .int .i64 x
abbrev cS (a : Option Addr) (c : Con) (n : Nat) : Value := .slice a c.r.held.length n
abbrev cH (a : Option Addr) (c : Con) (n : Nat) : Fact := av (cS a c n) 2 (c.r.held.map pC)
abbrev K6 : IntKind := .i64


theorem ysReceiverOk_c (r : Rcv) (r_heldV : Value) (w : World) (hl_r_heldV : Sl w r_heldV 2 (r.held.map pC)) (hm : ∀ p ∈ r.held, p.text.size ≤ 1048576) (hsz : r.data.size ≤ 4611686018427387904) : Calls Try.prog 113 #[.agg (rcvL r r_heldV).toArray] w fun e w' => e = .returned (.bool (rO r)) ∧ Below w.heap.size w w' := by
 have hw := windowOf_bd r
 obtain ⟨Arh,Crh,hvrh⟩ := hl_r_heldV.form
 rw [List.length_map] at hvrh; subst hvrh
 have hnrh := hl_r_heldV.len; rw [List.length_map] at hnrh
 have hqrh := Sl.capLe hl_r_heldV
 refine aj (args := [.agg (rcvL r (.slice Arh r.held.length Crh)).toArray]) (fn := Try.f113) [av (.slice Arh r.held.length Crh) 2 (r.held.map pC)] Try.func113 rfl Try.ntmps113 rfl (by simp only [List.mem_cons,List.not_mem_nil,or_false,forall_eq_or_imp,forall_eq]; exact ⟨rfl,hl_r_heldV⟩) ?_
 refine kQ <| cY [1] ⟨[(1,.p 0 0)],[⟨106,rcvL r (.slice Arh r.held.length Crh)⟩],[],[av (.slice Arh r.held.length Crh) 2 (r.held.map pC)]⟩ <| kQ <| ch 1 [1,7] [(7,.v (.agg (rcvL r (.slice Arh r.held.length Crh)).toArray))] 138 [.agg (rcvL r (.slice Arh r.held.length Crh)).toArray] (some 8) rfl (bw fun ww hf => sWindowOf_c r.next r.data r.held (.slice Arh r.held.length Crh) r.fin r.done ww (by omega)) ?_
 intro _
 refine ac [1,3] [(3,aI (wO r))] <| kS <| kQ <| ch 2 [1,3,10] [(10,aI r.next)] 42 [iI r.next,iI 32] (some 11) rfl (cw fun ww hf => cm r.next ww) ?_
 intro _
 refine bB 2 [1,3,13] [(13,aB (!(ar r.next 32)))] <| kP 13 (!(ar r.next 32)) (fun h1 => ?_) (fun h1 => ?_)
 have h1n := aa h1
 refine ac [1,3,36] [(36,aB true)] <| kT <| kQ <| am [2] [(2,aB false)] ?_
 refine kR ?_
 exact ⟨[.bool false],by kernel_rfl,fun w' hb hf => ⟨a7 (show (false : Bool) = rO r from by first | rfl | (rw [HR,HK]; simp [*]; done) | (rw [HR,HK]; simp [*]; omega) | (rw [HR,HK]; grind [aR]) | (simp [rO,az, *]; done) | (simp [rO,az, *]; omega) | grind [rO,az]),hb⟩⟩
 have h1n := ak h1
 refine bB 6 [1,3,19] [(19,aB (decide ((r.data.size : Int) > 32)))] <| kP 19 (decide ((r.data.size : Int) > 32)) (fun h2 => ?_) (fun h2 => ?_)
 have h2p := of_decide_eq_true h2
 refine ac [1,3,36] [(36,aB true)] <| kT <| kQ <| am [2] [(2,aB false)] ?_
 refine kR ?_
 exact ⟨[.bool false],by kernel_rfl,fun w' hb hf => ⟨a7 (show (false : Bool) = rO r from by first | rfl | (rw [HR,HK]; simp [*]; done) | (rw [HR,HK]; simp [*]; omega) | (rw [HR,HK]; grind [aR]) | (simp [rO,az, *]; done) | (simp [rO,az, *]; omega) | grind [rO,az]),hb⟩⟩
 have h2p := of_decide_eq_false h2
 refine bB 6 [1,3,25] [(25,aB (decide (((r.held.length : Nat) : Int) > 3)))] <| kP 25 (decide (((r.held.length : Nat) : Int) > 3)) (fun h3 => ?_) (fun h3 => ?_)
 have h3p := of_decide_eq_true h3
 refine ac [1,3,36] [(36,aB true)] <| kT <| kQ <| am [2] [(2,aB false)] ?_
 refine kR ?_
 exact ⟨[.bool false],by kernel_rfl,fun w' hb hf => ⟨a7 (show (false : Bool) = rO r from by first | rfl | (rw [HR,HK]; simp [*]; done) | (rw [HR,HK]; simp [*]; omega) | (rw [HR,HK]; grind [aR]) | (simp [rO,az, *]; done) | (simp [rO,az, *]; omega) | grind [rO,az]),hb⟩⟩
 have h3p := of_decide_eq_false h3
 refine ch 3 [1,3,25,27,28] [(25,aB false),(27,aI r.fin),(28,aI (wO r))] 46 [iI r.fin,iI (-1),iI (wO r)] (some 29) rfl (cw fun ww hf => ca r.fin (-1) (wO r) ww ) ?_
 intro _
 refine bB 3 [1,3,32] [(32,aB (!(aX r.fin (-1) (wO r))))] <| kP 32 (!(aX r.fin (-1) (wO r))) (fun h4 => ?_) (fun h4 => ?_)
 have h4n := aa h4
 refine ac [1,3,36] [(36,aB true)] <| kT <| kQ <| am [2] [(2,aB false)] ?_
 refine kR ?_
 exact ⟨[.bool false],by kernel_rfl,fun w' hb hf => ⟨a7 (show (false : Bool) = rO r from by first | rfl | (rw [HR,HK]; simp [*]; done) | (rw [HR,HK]; simp [*]; omega) | (rw [HR,HK]; grind [aR]) | (simp [rO,az, *]; done) | (simp [rO,az, *]; omega) | grind [rO,az]),hb⟩⟩
 have h4n := ak h4
 refine ac [1,3,36] [(36,aB (r.fin == 0))] <| kC (r.fin == 0) (fun h5 => ?_) (fun h5 => ?_)
 have h5p := eqT h5
 refine kQ <| am [2] [(2,aB false)] <| kR ?_
 exact ⟨[.bool false],by kernel_rfl,fun w' hb hf => ⟨a7 (show (false : Bool) = rO r from by first | rfl | (rw [HR,HK]; simp [*]; done) | (rw [HR,HK]; simp [*]; omega) | (rw [HR,HK]; grind [aR]) | (simp [rO,az, *]; done) | (simp [rO,az, *]; omega) | grind [rO,az]),hb⟩⟩
 have h5p := eqF h5
 refine kK <| kQ <| ac [1,3,4] [(4,aI 0)] <| kS <| kQ <| am [1,3,4,5] [(1,.p 0 0),(3,aI (wO r)),(4,aI 0),(5,aI 0)] ?_
 refine au ?_
 have hp : az r = true := by first | (simp [az, *]; done) | (simp [az, *]; omega) | grind [az]
 have hin := inB_tt.1 (rcvPre_iff.1 hp).2.2.2.1
 have HR := receiverOkS r hp
 refine aA (α := {x : Nat × Int // (fun (k : Nat) (z : Int) => k ≤ r.held.length ∧ 0 ≤ z ∧ z ≤ 32 ∧ bR (wO r) r.fin 0 r.held = bR (wO r) r.fin z (r.held.drop k)) x.1 x.2}) (fun x => (fun (k : Nat) (z : Int) => (⟨[(1,.p 0 0),(3,aI (wO r)),(4,aI z),(5,aI (k : Int))],[⟨106,rcvL r (.slice Arh r.held.length Crh)⟩],[],[av (.slice Arh r.held.length Crh) 2 (r.held.map pC)]⟩ : St)) x.1.1 x.1.2) (fun x => r.held.length - x.1.1) ⟨(0,0),⟨Nat.zero_le _,by omega,by omega,rfl⟩⟩ (kF 1 0 [1,3,4,5]) ?_
 rintro ⟨⟨k,z⟩,hk,hz0,hz1,HK⟩
 try dsimp only
 try dsimp only at hk hz0 hz1 HK
 refine kS <| kQ <| ac [1,3,4,5,41] [(41,aB (decide ((k : Int) < ((r.held.length : Nat) : Int))))] <| kC (decide ((k : Int) < ((r.held.length : Nat) : Int))) (fun h6 => ?_) (fun h6 => ?_)
 have h6p := of_decide_eq_true h6
 have hlt : k < r.held.length := by simpa using h6
 obtain ⟨x,hx⟩ : ∃ x,r.held[k]? = some x := ⟨_,List.getElem?_eq_getElem hlt⟩
 have hxm := hm x (List.mem_of_getElem? hx)
 rw [dc hx] at HK; simp only [bR,cu] at HK
 refine kK <| kS <| au <| kQ <| ba (kd := .i64) (T := 104) (e := 161) (K := 2) 3 [1,3,4,5,45,46] [(45,.v (.slice Arh r.held.length Crh)),(46,aI (k : Int))] k [iI x.off,.string x.text] (av (.slice Arh r.held.length Crh) 2 (r.held.map pC)) (by kernel_rfl) rfl (by kernel_rfl) rfl rfl (by kernel_rfl) (by kernel_rfl) (by kernel_rfl) (by kernel_rfl) hlt (by simp) (fun w h => h) (fun b h => h) (by simp only [List.getElem?_map,hx]; rfl) ?_
 refine kEA [1,3,4,5,6] [(6,.p 1 0)] [⟨161,pceL x⟩] <| kS <| kQ <| bB 4 [1,3,4,5,6,52] [(52,aB (x.text.toList == (⟨#[]⟩ : ByteArray).toList))] ?_
 refine kP 52 (x.text.toList == (⟨#[]⟩ : ByteArray).toList) (fun h7 => ?_) (fun h7 => ?_)
 have h7p := h7; simp only [beq_iff_eq,bne_iff_ne,beq_eq_false_iff_ne,bne_eq_false_iff_eq,ne_eq,aK] at h7p
 refine ac [1,3,5,6,73] [(73,aB true)] <| kT <| kQ <| am [2] [(2,aB false)] ?_
 refine kR ?_
 exact ⟨[.bool false],by kernel_rfl,fun w' hb hf => ⟨a7 (show (false : Bool) = rO r from by first | rfl | (rw [HR,HK]; simp [*]; done) | (rw [HR,HK]; simp [*]; omega) | (rw [HR,HK]; grind [aR]) | (simp [rO,az, *]; done) | (simp [rO,az, *]; omega) | grind [rO,az]),hb⟩⟩
 have h7p := h7; simp only [beq_iff_eq,bne_iff_ne,beq_eq_false_iff_ne,bne_eq_false_iff_eq,ne_eq,aK] at h7p
 refine bB 6 [1,3,5,6,58] [(58,aB (decide (x.off ≤ z)))] <| kP 58 (decide (x.off ≤ z)) (fun h8 => ?_) (fun h8 => ?_)
 have h8p := of_decide_eq_true h8
 refine ac [1,3,5,6,73] [(73,aB true)] <| kT <| kQ <| am [2] [(2,aB false)] ?_
 refine kR ?_
 exact ⟨[.bool false],by kernel_rfl,fun w' hb hf => ⟨a7 (show (false : Bool) = rO r from by first | rfl | (rw [HR,HK]; simp [*]; done) | (rw [HR,HK]; simp [*]; omega) | (rw [HR,HK]; grind [aR]) | (simp [rO,az, *]; done) | (simp [rO,az, *]; omega) | grind [rO,az]),hb⟩⟩
 have h8p := of_decide_eq_false h8
 refine bB 6 [1,3,5,6,64] [(64,aB (decide (x.off > (wO r))))] <| kP 64 (decide (x.off > (wO r))) (fun h9 => ?_) (fun h9 => ?_)
 have h9p := of_decide_eq_true h9
 refine ac [1,3,5,6,73] [(73,aB true)] <| kT <| kQ <| am [2] [(2,aB false)] ?_
 refine kR ?_
 exact ⟨[.bool false],by kernel_rfl,fun w' hb hf => ⟨a7 (show (false : Bool) = rO r from by first | rfl | (rw [HR,HK]; simp [*]; done) | (rw [HR,HK]; simp [*]; omega) | (rw [HR,HK]; grind [aR]) | (simp [rO,az, *]; done) | (simp [rO,az, *]; omega) | grind [rO,az]),hb⟩⟩
 have h9p := of_decide_eq_false h9
 refine bB 9 [1,3,5,6,73] [(73,aB (decide ((K6.wrap (x.off + (x.text.size : Int))) > (wO r))))] <| cz [1,3,5,6,73] [(73,aB (decide ((K6.wrap (x.off + (x.text.size : Int))) > (wO r))))] [(73,aB (decide ((x.off + (x.text.size : Int)) > (wO r))))] (by rw [show (K6.wrap (x.off + (x.text.size : Int))) = (x.off + (x.text.size : Int)) from aL (by omega) (by omega)]) (by kernel_rfl) ?_
 refine ac [1,3,5,6,73] [] <| kC (decide ((x.off + (x.text.size : Int)) > (wO r))) (fun h10 => ?_) (fun h10 => ?_)
 have h10p := of_decide_eq_true h10
 refine kQ <| am [2] [(2,aB false)] <| kR ?_
 exact ⟨[.bool false],by kernel_rfl,fun w' hb hf => ⟨a7 (show (false : Bool) = rO r from by first | rfl | (rw [HR,HK]; simp [*]; done) | (rw [HR,HK]; simp [*]; omega) | (rw [HR,HK]; grind [aR]) | (simp [rO,az, *]; done) | (simp [rO,az, *]; omega) | grind [rO,az]),hb⟩⟩
 have h10p := of_decide_eq_false h10
 refine kK <| kG <| dn 7 [1,3,4,5] [(1,.p 0 0),(3,aI (wO r)),(4,aI (K6.wrap (x.off + (x.text.size : Int)))),(5,aI (k : Int))] <| xl_eqS (t' := [(1,.p 0 0),(3,aI (wO r)),(4,aI (x.off + (x.text.size : Int))),(5,aI (k : Int))]) (by rw [show (K6.wrap (x.off + (x.text.size : Int))) = (x.off + (x.text.size : Int)) from aL (by omega) (by omega)]) ?_
 refine ac [1,3,4,5] [] <| kG <| bB 3 [1,3,4,5] [(5,aI (K6.wrap ((k : Int) + 1)))] <| cz [1,3,4,5] [(5,aI (K6.wrap ((k : Int) + 1)))] [(5,aI ((k : Int) + 1))] (by rw [show (K6.wrap ((k : Int) + 1)) = ((k : Int) + 1) from aL (by omega) (by omega)]) (by kernel_rfl) ?_
 refine ac [1,3,4,5] [] ?_
 exact ⟨⟨(k + 1,x.off + (x.text.size : Int)),⟨by omega,by omega,by omega,by rw [HK]; first | (simp [*]; done) | (simp [*]; omega) | grind⟩⟩,kF 1 0 [1,3,4,5],by show r.held.length - (k + 1) < r.held.length - k; omega⟩
 have h6p := of_decide_eq_false h6
 have hge : k = r.held.length := by simp at h6; omega
 subst hge; simp only [List.drop_length,bR,cu] at HK
 refine bu <| kQ <| bB 4 [1,4,83] [(83,aB (decide (r.fin < 0)))] <| kP 83 (decide (r.fin < 0)) (fun h11 => ?_) (fun h11 => ?_)
 have h11p := of_decide_eq_true h11
 refine bB 10 [1,89,93] [(89,aB true),(93,aB (!r.done))] <| kP 93 (!r.done) (fun h12 => ?_) (fun h12 => ?_)
 have h12n := aa h12
 refine am [2] [(2,aB true)] <| kR ?_
 exact ⟨[.bool true],by kernel_rfl,fun w' hb hf => ⟨a7 (show (true : Bool) = rO r from by first | rfl | (rw [HR,HK]; simp [*]; done) | (rw [HR,HK]; simp [*]; omega) | (rw [HR,HK]; grind [aR]) | (simp [rO,az, *]; done) | (simp [rO,az, *]; omega) | grind [rO,az]),hb⟩⟩
 have h12n := ak h12
 refine bB 5 [1,89,93,98] [(93,aB false),(98,aB (((r.held.length : Nat) : Int) == 0))] <| kP 98 (((r.held.length : Nat) : Int) == 0) (fun h13 => ?_) (fun h13 => ?_)
 have h13p := eqT h13
 refine am [2] [(2,aB (r.fin == (-1)))] <| kR ?_
 exact ⟨[.bool (r.fin == (-1))],by kernel_rfl,fun w' hb hf => ⟨a7 (show (r.fin == (-1) : Bool) = rO r from by first | rfl | (rw [HR,HK]; simp [*]; done) | (rw [HR,HK]; simp [*]; omega) | (rw [HR,HK]; grind [aR]) | (simp [rO,az, *]; done) | (simp [rO,az, *]; omega) | grind [rO,az]),hb⟩⟩
 have h13p := eqF h13
 refine am [2] [(2,aB false)] <| kR ?_
 exact ⟨[.bool false],by kernel_rfl,fun w' hb hf => ⟨a7 (show (false : Bool) = rO r from by first | rfl | (rw [HR,HK]; simp [*]; done) | (rw [HR,HK]; simp [*]; omega) | (rw [HR,HK]; grind [aR]) | (simp [rO,az, *]; done) | (simp [rO,az, *]; omega) | grind [rO,az]),hb⟩⟩
 have h11p := of_decide_eq_false h11
 refine bB 6 [1,89] [(89,aB (decide (z ≤ r.fin)))] <| kP 89 (decide (z ≤ r.fin)) (fun h14 => ?_) (fun h14 => ?_)
 have h14p := of_decide_eq_true h14
 refine bB 4 [1,89,93] [(89,aB true),(93,aB (!r.done))] <| kP 93 (!r.done) (fun h15 => ?_) (fun h15 => ?_)
 have h15n := aa h15
 refine am [2] [(2,aB true)] <| kR ?_
 exact ⟨[.bool true],by kernel_rfl,fun w' hb hf => ⟨a7 (show (true : Bool) = rO r from by first | rfl | (rw [HR,HK]; simp [*]; done) | (rw [HR,HK]; simp [*]; omega) | (rw [HR,HK]; grind [aR]) | (simp [rO,az, *]; done) | (simp [rO,az, *]; omega) | grind [rO,az]),hb⟩⟩
 have h15n := ak h15
 refine bB 5 [1,89,93,98] [(93,aB false),(98,aB (((r.held.length : Nat) : Int) == 0))] <| kP 98 (((r.held.length : Nat) : Int) == 0) (fun h16 => ?_) (fun h16 => ?_)
 have h16p := eqT h16
 refine am [2] [(2,aB (r.fin == (-1)))] <| kR ?_
 exact ⟨[.bool (r.fin == (-1))],by kernel_rfl,fun w' hb hf => ⟨a7 (show (r.fin == (-1) : Bool) = rO r from by first | rfl | (rw [HR,HK]; simp [*]; done) | (rw [HR,HK]; simp [*]; omega) | (rw [HR,HK]; grind [aR]) | (simp [rO,az, *]; done) | (simp [rO,az, *]; omega) | grind [rO,az]),hb⟩⟩
 have h16p := eqF h16
 refine am [2] [(2,aB false)] <| kR ?_
 exact ⟨[.bool false],by kernel_rfl,fun w' hb hf => ⟨a7 (show (false : Bool) = rO r from by first | rfl | (rw [HR,HK]; simp [*]; done) | (rw [HR,HK]; simp [*]; omega) | (rw [HR,HK]; grind [aR]) | (simp [rO,az, *]; done) | (simp [rO,az, *]; omega) | grind [rO,az]),hb⟩⟩
 have h14p := of_decide_eq_false h14
 refine am [2] [(2,aB false)] <| kR ?_
 exact ⟨[.bool false],by kernel_rfl,fun w' hb hf => ⟨a7 (show (false : Bool) = rO r from by first | rfl | (rw [HR,HK]; simp [*]; done) | (rw [HR,HK]; simp [*]; omega) | (rw [HR,HK]; grind [aR]) | (simp [rO,az, *]; done) | (simp [rO,az, *]; omega) | grind [rO,az]),hb⟩⟩
theorem yiReceiverOk_c (r : Rcv) (r_heldV : Value) (w : World) (hl_r_heldV : Sl w r_heldV 2 (r.held.map pC)) (hm : ∀ p ∈ r.held, p.text.size ≤ 1048576) (hsz : r.data.size ≤ 4611686018427387904) : Calls Try.prog 118 #[.agg (rcvL r r_heldV).toArray] w fun e w' => e = .returned (.bool (rO r)) ∧ Below w.heap.size w w' := by
 have hw := windowOf_bd r
 obtain ⟨Arh,Crh,hvrh⟩ := hl_r_heldV.form
 rw [List.length_map] at hvrh; subst hvrh
 have hnrh := hl_r_heldV.len; rw [List.length_map] at hnrh
 have hqrh := Sl.capLe hl_r_heldV
 refine aj (args := [.agg (rcvL r (.slice Arh r.held.length Crh)).toArray]) (fn := Try.f118) [av (.slice Arh r.held.length Crh) 2 (r.held.map pC)] Try.func118 rfl Try.ntmps118 rfl (by simp only [List.mem_cons,List.not_mem_nil,or_false,forall_eq_or_imp,forall_eq]; exact ⟨rfl,hl_r_heldV⟩) ?_
 refine kQ <| cY [1] ⟨[(1,.p 0 0)],[⟨106,rcvL r (.slice Arh r.held.length Crh)⟩],[],[av (.slice Arh r.held.length Crh) 2 (r.held.map pC)]⟩ <| kQ <| ch 1 [1,8] [(8,.v (.agg (rcvL r (.slice Arh r.held.length Crh)).toArray))] 140 [.agg (rcvL r (.slice Arh r.held.length Crh)).toArray] (some 9) rfl (bw fun ww hf => iWindowOf_c r.next r.data r.held (.slice Arh r.held.length Crh) r.fin r.done ww (by omega)) ?_
 intro _
 refine ac [1,3] [(3,aI (wO r))] <| kS <| kQ <| ch 2 [1,3,11] [(11,aI r.next)] 48 [iI r.next,iI 32] (some 12) rfl (cw fun ww hf => cX r.next ww) ?_
 intro _
 refine bB 2 [1,3,14] [(14,aB (!(ar r.next 32)))] <| kP 14 (!(ar r.next 32)) (fun h1 => ?_) (fun h1 => ?_)
 have h1n := aa h1
 refine ac [1,3,37] [(37,aB true)] <| kT <| kQ <| am [2] [(2,aB false)] ?_
 refine kR ?_
 exact ⟨[.bool false],by kernel_rfl,fun w' hb hf => ⟨a7 (show (false : Bool) = rO r from by first | rfl | (rw [HR,HK]; simp [*]; done) | (rw [HR,HK]; simp [*]; omega) | (rw [HR,HK]; grind [aR]) | (simp [rO,az, *]; done) | (simp [rO,az, *]; omega) | grind [rO,az]),hb⟩⟩
 have h1n := ak h1
 refine bB 6 [1,3,20] [(20,aB (decide ((r.data.size : Int) > 32)))] <| kP 20 (decide ((r.data.size : Int) > 32)) (fun h2 => ?_) (fun h2 => ?_)
 have h2p := of_decide_eq_true h2
 refine ac [1,3,37] [(37,aB true)] <| kT <| kQ <| am [2] [(2,aB false)] ?_
 refine kR ?_
 exact ⟨[.bool false],by kernel_rfl,fun w' hb hf => ⟨a7 (show (false : Bool) = rO r from by first | rfl | (rw [HR,HK]; simp [*]; done) | (rw [HR,HK]; simp [*]; omega) | (rw [HR,HK]; grind [aR]) | (simp [rO,az, *]; done) | (simp [rO,az, *]; omega) | grind [rO,az]),hb⟩⟩
 have h2p := of_decide_eq_false h2
 refine bB 6 [1,3,26] [(26,aB (decide (((r.held.length : Nat) : Int) > 3)))] <| kP 26 (decide (((r.held.length : Nat) : Int) > 3)) (fun h3 => ?_) (fun h3 => ?_)
 have h3p := of_decide_eq_true h3
 refine ac [1,3,37] [(37,aB true)] <| kT <| kQ <| am [2] [(2,aB false)] ?_
 refine kR ?_
 exact ⟨[.bool false],by kernel_rfl,fun w' hb hf => ⟨a7 (show (false : Bool) = rO r from by first | rfl | (rw [HR,HK]; simp [*]; done) | (rw [HR,HK]; simp [*]; omega) | (rw [HR,HK]; grind [aR]) | (simp [rO,az, *]; done) | (simp [rO,az, *]; omega) | grind [rO,az]),hb⟩⟩
 have h3p := of_decide_eq_false h3
 refine ch 3 [1,3,26,28,29] [(26,aB false),(28,aI r.fin),(29,aI (wO r))] 52 [iI r.fin,iI (-1),iI (wO r)] (some 30) rfl (cw fun ww hf => bk r.fin (-1) (wO r) ww ) ?_
 intro _
 refine bB 3 [1,3,33] [(33,aB (!(aX r.fin (-1) (wO r))))] <| kP 33 (!(aX r.fin (-1) (wO r))) (fun h4 => ?_) (fun h4 => ?_)
 have h4n := aa h4
 refine ac [1,3,37] [(37,aB true)] <| kT <| kQ <| am [2] [(2,aB false)] ?_
 refine kR ?_
 exact ⟨[.bool false],by kernel_rfl,fun w' hb hf => ⟨a7 (show (false : Bool) = rO r from by first | rfl | (rw [HR,HK]; simp [*]; done) | (rw [HR,HK]; simp [*]; omega) | (rw [HR,HK]; grind [aR]) | (simp [rO,az, *]; done) | (simp [rO,az, *]; omega) | grind [rO,az]),hb⟩⟩
 have h4n := ak h4
 refine ac [1,3,37] [(37,aB (r.fin == 0))] <| kC (r.fin == 0) (fun h5 => ?_) (fun h5 => ?_)
 have h5p := eqT h5
 refine kQ <| am [2] [(2,aB false)] <| kR ?_
 exact ⟨[.bool false],by kernel_rfl,fun w' hb hf => ⟨a7 (show (false : Bool) = rO r from by first | rfl | (rw [HR,HK]; simp [*]; done) | (rw [HR,HK]; simp [*]; omega) | (rw [HR,HK]; grind [aR]) | (simp [rO,az, *]; done) | (simp [rO,az, *]; omega) | grind [rO,az]),hb⟩⟩
 have h5p := eqF h5
 refine kK <| kQ <| ac [1,4] [(4,aI (wO r))] <| kS <| kQ <| am [1,4,41] [(1,.p 0 0),(4,aI (wO r)),(41,aB (r.fin != (-1)))] ?_
 refine kC (r.fin != (-1)) (fun h6 => ?_) (fun h6 => ?_)
 have h6p := neT h6
 refine kG <| ac [1,4] [(4,aI r.fin)] <| kQ <| ac [1,4,5] [(5,aI 0)] ?_
 refine kS <| kQ <| ac [1,4,5,45,46,47] [(45,.v (.slice Arh r.held.length Crh)),(46,aI ((r.held.length : Nat) : Int)),(47,aI 0)] <| au ?_
 have hp : az r = true := by first | (simp [az, *]; done) | (simp [az, *]; omega) | grind [az]
 have hin := inB_tt.1 (rcvPre_iff.1 hp).2.2.2.1
 have HR : rO r = (cu (if r.fin = -1 then wO r else r.fin) 0 r.held && aR r) := by unfold rO; rw [hp]; rfl
 refine aA (α := {x : Nat × Int // (fun (k : Nat) (z : Int) => k ≤ r.held.length ∧ 0 ≤ z ∧ z ≤ 32 ∧ cu (if r.fin = -1 then wO r else r.fin) 0 r.held = cu (if r.fin = -1 then wO r else r.fin) z (r.held.drop k)) x.1 x.2}) (fun x => (fun (k : Nat) (z : Int) => (⟨[(1,.p 0 0),(4,aI r.fin),(5,aI z),(45,.v (.slice Arh r.held.length Crh)),(46,aI ((r.held.length : Nat) : Int)),(47,aI (k : Int))],[⟨106,rcvL r (.slice Arh r.held.length Crh)⟩],[],[av (.slice Arh r.held.length Crh) 2 (r.held.map pC)]⟩ : St)) x.1.1 x.1.2) (fun x => r.held.length - x.1.1) ⟨(0,0),⟨Nat.zero_le _,by omega,by omega,rfl⟩⟩ (kF 1 0 [1,4,5,45,46,47]) ?_
 rintro ⟨⟨k,z⟩,hk,hz0,hz1,HK⟩
 try dsimp only
 try dsimp only at hk hz0 hz1 HK
 refine kQ <| ac [1,4,5,45,46,47,48] [(48,aB (decide ((k : Int) < ((r.held.length : Nat) : Int))))] <| kS <| kC (decide ((k : Int) < ((r.held.length : Nat) : Int))) (fun h7 => ?_) (fun h7 => ?_)
 have h7p := of_decide_eq_true h7
 have hlt : k < r.held.length := by simpa using h7
 obtain ⟨x,hx⟩ : ∃ x,r.held[k]? = some x := ⟨_,List.getElem?_eq_getElem hlt⟩
 have hxm := hm x (List.mem_of_getElem? hx)
 rw [dc hx] at HK; simp only [bR,cu] at HK
 refine kK <| kS <| au <| kQ <| ba (kd := .i64) (T := 104) (e := 161) (K := 2) 0 [1,4,5,45,46,47] [] k [iI x.off,.string x.text] (av (.slice Arh r.held.length Crh) 2 (r.held.map pC)) (by kernel_rfl) rfl (by kernel_rfl) rfl rfl (by kernel_rfl) (by kernel_rfl) (by kernel_rfl) (by kernel_rfl) hlt (by simp) (fun w h => h) (fun b h => h) (by simp only [List.getElem?_map,hx]; rfl) ?_
 refine kEA [1,4,5,7,45,46,47] [(7,.p 1 0)] [⟨161,pceL x⟩] <| kS <| kQ <| bB 4 [1,4,5,7,45,46,47,54] [(54,aB (x.text.toList == (⟨#[]⟩ : ByteArray).toList))] ?_
 refine kP 54 (x.text.toList == (⟨#[]⟩ : ByteArray).toList) (fun h8 => ?_) (fun h8 => ?_)
 have h8p := h8; simp only [beq_iff_eq,bne_iff_ne,beq_eq_false_iff_ne,bne_eq_false_iff_eq,ne_eq,aK] at h8p
 refine ac [1,4,7,45,46,47,69] [(69,aB true)] <| kT <| kQ <| am [2] [(2,aB false)] ?_
 refine kR ?_
 exact ⟨[.bool false],by kernel_rfl,fun w' hb hf => ⟨a7 (show (false : Bool) = rO r from by first | rfl | (rw [HR,HK]; simp [*]; done) | (rw [HR,HK]; simp [*]; omega) | (rw [HR,HK]; grind [aR]) | (simp [rO,az, *]; done) | (simp [rO,az, *]; omega) | grind [rO,az]),hb⟩⟩
 have h8p := h8; simp only [beq_iff_eq,bne_iff_ne,beq_eq_false_iff_ne,bne_eq_false_iff_eq,ne_eq,aK] at h8p
 refine bB 6 [1,4,7,45,46,47,60] [(60,aB (decide (x.off ≤ z)))] <| kP 60 (decide (x.off ≤ z)) (fun h9 => ?_) (fun h9 => ?_)
 have h9p := of_decide_eq_true h9
 refine ac [1,4,7,45,46,47,69] [(69,aB true)] <| kT <| kQ <| am [2] [(2,aB false)] ?_
 refine kR ?_
 exact ⟨[.bool false],by kernel_rfl,fun w' hb hf => ⟨a7 (show (false : Bool) = rO r from by first | rfl | (rw [HR,HK]; simp [*]; done) | (rw [HR,HK]; simp [*]; omega) | (rw [HR,HK]; grind [aR]) | (simp [rO,az, *]; done) | (simp [rO,az, *]; omega) | grind [rO,az]),hb⟩⟩
 have h9p := of_decide_eq_false h9
 refine bB 9 [1,4,7,45,46,47,69] [(69,aB (decide (x.off > (K6.wrap (r.fin - (x.text.size : Int))))))] <| cz [1,4,7,45,46,47,69] [(69,aB (decide (x.off > (K6.wrap (r.fin - (x.text.size : Int))))))] [(69,aB (decide (x.off > (r.fin - (x.text.size : Int)))))] (by rw [show (K6.wrap (r.fin - (x.text.size : Int))) = (r.fin - (x.text.size : Int)) from aL (by omega) (by omega)]) (by kernel_rfl) ?_
 refine am [1,4,7,45,46,47,69] [(1,.p 0 0),(4,aI r.fin),(7,.p 1 0),(45,.v (.slice Arh r.held.length Crh)),(46,aI ((r.held.length : Nat) : Int)),(47,aI (k : Int)),(69,aB (decide (x.off > (r.fin - (x.text.size : Int)))))] <| kC (decide (x.off > (r.fin - (x.text.size : Int)))) (fun h10 => ?_) (fun h10 => ?_)
 have h10p := of_decide_eq_true h10
 refine kQ <| am [2] [(2,aB false)] <| kR ?_
 exact ⟨[.bool false],by kernel_rfl,fun w' hb hf => ⟨a7 (show (false : Bool) = rO r from by first | rfl | (rw [HR,HK]; simp [*]; done) | (rw [HR,HK]; simp [*]; omega) | (rw [HR,HK]; grind [aR]) | (simp [rO,az, *]; done) | (simp [rO,az, *]; omega) | grind [rO,az]),hb⟩⟩
 have h10p := of_decide_eq_false h10
 refine kK <| kG <| bB 7 [1,4,5,45,46,47] [(5,aI (K6.wrap (x.off + (x.text.size : Int))))] <| cz [1,4,5,45,46,47] [(5,aI (K6.wrap (x.off + (x.text.size : Int))))] [(5,aI (x.off + (x.text.size : Int)))] (by rw [show (K6.wrap (x.off + (x.text.size : Int))) = (x.off + (x.text.size : Int)) from aL (by omega) (by omega)]) (by kernel_rfl) ?_
 refine ac [1,4,5,45,46,47] [] <| kG <| bB 2 [1,4,5,45,46,47] [(47,aI (K6.wrap ((k : Int) + 1)))] <| cz [1,4,5,45,46,47] [(47,aI (K6.wrap ((k : Int) + 1)))] [(47,aI ((k : Int) + 1))] (by rw [show (K6.wrap ((k : Int) + 1)) = ((k : Int) + 1) from aL (by omega) (by omega)]) (by kernel_rfl) ?_
 refine ac [1,4,5,45,46,47] [] ?_
 exact ⟨⟨(k + 1,x.off + (x.text.size : Int)),⟨by omega,by omega,by omega,by rw [HK]; first | (simp [*]; done) | (simp [*]; omega) | grind⟩⟩,kF 1 0 [1,4,5,45,46,47],by show r.held.length - (k + 1) < r.held.length - k; omega⟩
 have h7p := of_decide_eq_false h7
 have hge : k = r.held.length := by simp at h7; omega
 subst hge; simp only [List.drop_length,bR,cu] at HK
 refine bu <| kQ <| bB 4 [1,80] [(80,aB (!r.done))] <| kP 80 (!r.done) (fun h11 => ?_) (fun h11 => ?_)
 have h11n := aa h11
 refine am [2] [(2,aB true)] <| kR ?_
 exact ⟨[.bool true],by kernel_rfl,fun w' hb hf => ⟨a7 (show (true : Bool) = rO r from by first | rfl | (rw [HR,HK]; simp [*]; done) | (rw [HR,HK]; simp [*]; omega) | (rw [HR,HK]; grind [aR]) | (simp [rO,az, *]; done) | (simp [rO,az, *]; omega) | grind [rO,az]),hb⟩⟩
 have h11n := ak h11
 refine bB 5 [1,80,85] [(80,aB false),(85,aB (((r.held.length : Nat) : Int) == 0))] <| kP 85 (((r.held.length : Nat) : Int) == 0) (fun h12 => ?_) (fun h12 => ?_)
 have h12p := eqT h12
 refine am [2] [(2,aB (r.fin == (-1)))] <| kR ?_
 exact ⟨[.bool (r.fin == (-1))],by kernel_rfl,fun w' hb hf => ⟨a7 (show (r.fin == (-1) : Bool) = rO r from by first | rfl | (rw [HR,HK]; simp [*]; done) | (rw [HR,HK]; simp [*]; omega) | (rw [HR,HK]; grind [aR]) | (simp [rO,az, *]; done) | (simp [rO,az, *]; omega) | grind [rO,az]),hb⟩⟩
 have h12p := eqF h12
 refine am [2] [(2,aB false)] <| kR ?_
 exact ⟨[.bool false],by kernel_rfl,fun w' hb hf => ⟨a7 (show (false : Bool) = rO r from by first | rfl | (rw [HR,HK]; simp [*]; done) | (rw [HR,HK]; simp [*]; omega) | (rw [HR,HK]; grind [aR]) | (simp [rO,az, *]; done) | (simp [rO,az, *]; omega) | grind [rO,az]),hb⟩⟩
 have h6p := neF h6
 refine kK <| kQ <| ac [1,4,5] [(5,aI 0)] <| kS <| kQ <| ac [1,4,5,45,46,47] [(45,.v (.slice Arh r.held.length Crh)),(46,aI ((r.held.length : Nat) : Int)),(47,aI 0)] ?_
 refine au ?_
 have hp : az r = true := by first | (simp [az, *]; done) | (simp [az, *]; omega) | grind [az]
 have hin := inB_tt.1 (rcvPre_iff.1 hp).2.2.2.1
 have HR : rO r = (cu (if r.fin = -1 then wO r else r.fin) 0 r.held && aR r) := by unfold rO; rw [hp]; rfl
 refine aA (α := {x : Nat × Int // (fun (k : Nat) (z : Int) => k ≤ r.held.length ∧ 0 ≤ z ∧ z ≤ 32 ∧ cu (if r.fin = -1 then wO r else r.fin) 0 r.held = cu (if r.fin = -1 then wO r else r.fin) z (r.held.drop k)) x.1 x.2}) (fun x => (fun (k : Nat) (z : Int) => (⟨[(1,.p 0 0),(4,aI (wO r)),(5,aI z),(45,.v (.slice Arh r.held.length Crh)),(46,aI ((r.held.length : Nat) : Int)),(47,aI (k : Int))],[⟨106,rcvL r (.slice Arh r.held.length Crh)⟩],[],[av (.slice Arh r.held.length Crh) 2 (r.held.map pC)]⟩ : St)) x.1.1 x.1.2) (fun x => r.held.length - x.1.1) ⟨(0,0),⟨Nat.zero_le _,by omega,by omega,rfl⟩⟩ (kF 1 0 [1,4,5,45,46,47]) ?_
 rintro ⟨⟨k,z⟩,hk,hz0,hz1,HK⟩
 try dsimp only
 try dsimp only at hk hz0 hz1 HK
 refine kQ <| ac [1,4,5,45,46,47,48] [(48,aB (decide ((k : Int) < ((r.held.length : Nat) : Int))))] <| kS <| kC (decide ((k : Int) < ((r.held.length : Nat) : Int))) (fun h13 => ?_) (fun h13 => ?_)
 have h13p := of_decide_eq_true h13
 have hlt : k < r.held.length := by simpa using h13
 obtain ⟨x,hx⟩ : ∃ x,r.held[k]? = some x := ⟨_,List.getElem?_eq_getElem hlt⟩
 have hxm := hm x (List.mem_of_getElem? hx)
 rw [dc hx] at HK; simp only [bR,cu] at HK
 refine kK <| kS <| au <| kQ <| ba (kd := .i64) (T := 104) (e := 161) (K := 2) 0 [1,4,5,45,46,47] [] k [iI x.off,.string x.text] (av (.slice Arh r.held.length Crh) 2 (r.held.map pC)) (by kernel_rfl) rfl (by kernel_rfl) rfl rfl (by kernel_rfl) (by kernel_rfl) (by kernel_rfl) (by kernel_rfl) hlt (by simp) (fun w h => h) (fun b h => h) (by simp only [List.getElem?_map,hx]; rfl) ?_
 refine kEA [1,4,5,7,45,46,47] [(7,.p 1 0)] [⟨161,pceL x⟩] <| kS <| kQ <| bB 4 [1,4,5,7,45,46,47,54] [(54,aB (x.text.toList == (⟨#[]⟩ : ByteArray).toList))] ?_
 refine kP 54 (x.text.toList == (⟨#[]⟩ : ByteArray).toList) (fun h14 => ?_) (fun h14 => ?_)
 have h14p := h14; simp only [beq_iff_eq,bne_iff_ne,beq_eq_false_iff_ne,bne_eq_false_iff_eq,ne_eq,aK] at h14p
 refine ac [1,4,7,45,46,47,69] [(69,aB true)] <| kT <| kQ <| am [2] [(2,aB false)] ?_
 refine kR ?_
 exact ⟨[.bool false],by kernel_rfl,fun w' hb hf => ⟨a7 (show (false : Bool) = rO r from by first | rfl | (rw [HR,HK]; simp [*]; done) | (rw [HR,HK]; simp [*]; omega) | (rw [HR,HK]; grind [aR]) | (simp [rO,az, *]; done) | (simp [rO,az, *]; omega) | grind [rO,az]),hb⟩⟩
 have h14p := h14; simp only [beq_iff_eq,bne_iff_ne,beq_eq_false_iff_ne,bne_eq_false_iff_eq,ne_eq,aK] at h14p
 refine bB 6 [1,4,7,45,46,47,60] [(60,aB (decide (x.off ≤ z)))] <| kP 60 (decide (x.off ≤ z)) (fun h15 => ?_) (fun h15 => ?_)
 have h15p := of_decide_eq_true h15
 refine ac [1,4,7,45,46,47,69] [(69,aB true)] <| kT <| kQ <| am [2] [(2,aB false)] ?_
 refine kR ?_
 exact ⟨[.bool false],by kernel_rfl,fun w' hb hf => ⟨a7 (show (false : Bool) = rO r from by first | rfl | (rw [HR,HK]; simp [*]; done) | (rw [HR,HK]; simp [*]; omega) | (rw [HR,HK]; grind [aR]) | (simp [rO,az, *]; done) | (simp [rO,az, *]; omega) | grind [rO,az]),hb⟩⟩
 have h15p := of_decide_eq_false h15
 refine bB 9 [1,4,7,45,46,47,69] [(69,aB (decide (x.off > (K6.wrap ((wO r) - (x.text.size : Int))))))] <| cz [1,4,7,45,46,47,69] [(69,aB (decide (x.off > (K6.wrap ((wO r) - (x.text.size : Int))))))] [(69,aB (decide (x.off > ((wO r) - (x.text.size : Int)))))] (by rw [show (K6.wrap ((wO r) - (x.text.size : Int))) = ((wO r) - (x.text.size : Int)) from aL (by omega) (by omega)]) (by kernel_rfl) ?_
 refine ac [1,4,7,45,46,47,69] [] <| kC (decide (x.off > ((wO r) - (x.text.size : Int)))) (fun h16 => ?_) (fun h16 => ?_)
 have h16p := of_decide_eq_true h16
 refine kQ <| am [2] [(2,aB false)] <| kR ?_
 exact ⟨[.bool false],by kernel_rfl,fun w' hb hf => ⟨a7 (show (false : Bool) = rO r from by first | rfl | (rw [HR,HK]; simp [*]; done) | (rw [HR,HK]; simp [*]; omega) | (rw [HR,HK]; grind [aR]) | (simp [rO,az, *]; done) | (simp [rO,az, *]; omega) | grind [rO,az]),hb⟩⟩
 have h16p := of_decide_eq_false h16
 refine kK <| kG <| dn 7 [1,4,5,45,46,47] [(1,.p 0 0),(4,aI (wO r)),(5,aI (K6.wrap (x.off + (x.text.size : Int)))),(45,.v (.slice Arh r.held.length Crh)),(46,aI ((r.held.length : Nat) : Int)),(47,aI (k : Int))] <| xl_eqS (t' := [(1,.p 0 0),(4,aI (wO r)),(5,aI (x.off + (x.text.size : Int))),(45,.v (.slice Arh r.held.length Crh)),(46,aI ((r.held.length : Nat) : Int)),(47,aI (k : Int))]) (by rw [show (K6.wrap (x.off + (x.text.size : Int))) = (x.off + (x.text.size : Int)) from aL (by omega) (by omega)]) ?_
 refine ac [1,4,5,45,46,47] [] <| kG <| bB 2 [1,4,5,45,46,47] [(47,aI (K6.wrap ((k : Int) + 1)))] <| cz [1,4,5,45,46,47] [(47,aI (K6.wrap ((k : Int) + 1)))] [(47,aI ((k : Int) + 1))] (by rw [show (K6.wrap ((k : Int) + 1)) = ((k : Int) + 1) from aL (by omega) (by omega)]) (by kernel_rfl) ?_
 refine ac [1,4,5,45,46,47] [] ?_
 exact ⟨⟨(k + 1,x.off + (x.text.size : Int)),⟨by omega,by omega,by omega,by rw [HK]; first | (simp [*]; done) | (simp [*]; omega) | grind⟩⟩,kF 1 0 [1,4,5,45,46,47],by show r.held.length - (k + 1) < r.held.length - k; omega⟩
 have h13p := of_decide_eq_false h13
 have hge : k = r.held.length := by simp at h13; omega
 subst hge; simp only [List.drop_length,bR,cu] at HK
 refine bu <| kQ <| bB 4 [1,80] [(80,aB (!r.done))] <| kP 80 (!r.done) (fun h17 => ?_) (fun h17 => ?_)
 have h17n := aa h17
 refine am [2] [(2,aB true)] <| kR ?_
 exact ⟨[.bool true],by kernel_rfl,fun w' hb hf => ⟨a7 (show (true : Bool) = rO r from by first | rfl | (rw [HR,HK]; simp [*]; done) | (rw [HR,HK]; simp [*]; omega) | (rw [HR,HK]; grind [aR]) | (simp [rO,az, *]; done) | (simp [rO,az, *]; omega) | grind [rO,az]),hb⟩⟩
 have h17n := ak h17
 refine bB 5 [1,80,85] [(80,aB false),(85,aB (((r.held.length : Nat) : Int) == 0))] <| kP 85 (((r.held.length : Nat) : Int) == 0) (fun h18 => ?_) (fun h18 => ?_)
 have h18p := eqT h18
 refine am [2] [(2,aB (r.fin == (-1)))] <| kR ?_
 exact ⟨[.bool (r.fin == (-1))],by kernel_rfl,fun w' hb hf => ⟨a7 (show (r.fin == (-1) : Bool) = rO r from by first | rfl | (rw [HR,HK]; simp [*]; done) | (rw [HR,HK]; simp [*]; omega) | (rw [HR,HK]; grind [aR]) | (simp [rO,az, *]; done) | (simp [rO,az, *]; omega) | grind [rO,az]),hb⟩⟩
 have h18p := eqF h18
 refine am [2] [(2,aB false)] <| kR ?_
 exact ⟨[.bool false],by kernel_rfl,fun w' hb hf => ⟨a7 (show (false : Bool) = rO r from by first | rfl | (rw [HR,HK]; simp [*]; done) | (rw [HR,HK]; simp [*]; omega) | (rw [HR,HK]; grind [aR]) | (simp [rO,az, *]; done) | (simp [rO,az, *]; omega) | grind [rO,az]),hb⟩⟩
theorem l19Fin_c (k : Int) (w : World)  : Calls Try.prog 114 #[iI k] w fun e w' => e = .returned (.bool (decide (k ≠ 1 ∧ k ≠ 4))) ∧ Below w.heap.size w w' := by
 refine aj (args := [iI k]) (fn := Try.f114) [] Try.func114 rfl Try.ntmps114 rfl (by simp) ?_
 refine kQ <| cY [0] ⟨[(0,aI k)],[],[],[]⟩ <| kS <| bS ⟨[(2,aB ((k != 1) && (k != 4)))],[],[],[]⟩ ?_ ?_
 refine kG <| dn 3 [0,5] [(0,aI k),(5,aB (k != 1))] <| kP 5 (k != 1) (fun h1 => ?_) (fun h1 => ?_)
 have h1p := neT h1
 refine am [2] [(2,aB (k != 4))] ?_
 show Wk _ _
 try rw [h1]
 exact kF 0 0 [2]
 have h1p := neF h1
 refine am [2] [(2,aB false)] ?_
 show Wk _ _
 try rw [h1]
 exact kF 0 0 [2]
 refine kR ?_
 exact ⟨[.bool ((k != 1) && (k != 4))],by kernel_rfl,fun w' hb hf => ⟨a7 (show ((k != 1) && (k != 4) : Bool) = decide (k ≠ 1 ∧ k ≠ 4) from by first | rfl | (simp [*]; done) | (simp [*]; omega) | grind [aK]),hb⟩⟩
@[simp] theorem inB18_1 : aX 1 1 8 = true := rfl
@[simp] theorem inB18_2 : aX 2 1 8 = true := rfl
@[simp] theorem inB18_3 : aX 3 1 8 = true := rfl
@[simp] theorem inB18_4 : aX 4 1 8 = true := rfl
@[simp] theorem inB18_5 : aX 5 1 8 = true := rfl
@[simp] theorem inB18_6 : aX 6 1 8 = true := rfl
@[simp] theorem inB18_7 : aX 7 1 8 = true := rfl
@[simp] theorem inB18_8 : aX 8 1 8 = true := rfl
theorem ysConnOk_c (c : Con) (rV : Value) (w : World) (hZ : Sl w rV 2 (c.r.held.map pC)) (hm : ∀ p ∈ c.r.held, p.text.size ≤ 1048576) (hsz : c.r.data.size ≤ 4611686018427387904) : Calls Try.prog 82 #[.agg (co c rV).toArray] w fun e w' => e = .returned (.bool (aY c)) ∧ Below w.heap.size w w' := by
 obtain ⟨Z,Y,hY⟩ := hZ.form
 rw [List.length_map] at hY; subst hY
 have hJ := hZ.len; rw [List.length_map] at hJ
 have hqcrh := Sl.capLe hZ
 refine aj (args := [.agg (co c (cS Z c Y)).toArray]) (fn := Try.f82) [cH Z c Y] Try.func82 rfl Try.ntmps82 rfl (by simp only [List.mem_cons,List.not_mem_nil,or_false,forall_eq_or_imp,forall_eq]; exact ⟨rfl,hZ⟩) ?_
 refine kQ <| cY [1] ⟨[(1,.p 0 0)],[⟨108,co c (cS Z c Y)⟩],[],[cH Z c Y]⟩ <| kS <| kS <| bS ⟨[(1,.p 0 0),(52,aB ((!(bj c.t)) || ((!(bh c.s)) || ((!(rO c.r)) || ((!(aQ c.o)) || ((!(aX c.state 1 8)) || ((!(aX c.window 0 c.most)) || ((decide (c.most > 1073725440)) || (!(aX c.tries 0 3))))))))))],[⟨108,co c (cS Z c Y)⟩],[],[cH Z c Y]⟩ ?_ ?_
 refine kG <| kCS 2 [1,7] [(1,.p 0 0),(7,.v (.agg (bX c.t).toArray))] 84 [.agg (bX c.t).toArray] (some 8) rfl (bw fun ww hf => sTupleOk_c c.t.ip c.t.port c.t.my ww ) ?_
 intro _
 refine dn 2 [1,10] [(1,.p 0 0),(10,aB (!(bj c.t)))] <| kP 10 (!(bj c.t)) (fun h1 => ?_) (fun h1 => ?_)
 have h1n := aa h1
 refine am [1,52] [(1,.p 0 0),(52,aB true)] ?_
 show Wk _ _
 try rw [h1]
 exact kF 1 0 [1,52]
 have h1n := ak h1
 refine kCS 2 [1,10,12] [(1,.p 0 0),(10,aB false),(12,.v (.agg (sndL c.s).toArray))] 112 [.agg (sndL c.s).toArray] (some 13) rfl (bw fun ww hf => sSenderOk_c c.s.una c.s.data c.s.sent c.s.fin c.s.finSent c.s.done ww ) ?_
 intro _
 refine dn 3 [1,16] [(1,.p 0 0),(16,aB (!(bh c.s)))] <| kP 16 (!(bh c.s)) (fun h2 => ?_) (fun h2 => ?_)
 have h2n := aa h2
 refine am [1,52] [(1,.p 0 0),(52,aB true)] ?_
 show Wk _ _
 try rw [h1]
 try rw [h2]
 exact kF 1 0 [1,52]
 have h2n := ak h2
 refine kCS 2 [1,16,18] [(1,.p 0 0),(16,aB false),(18,.v (.agg (rcvL c.r (cS Z c Y)).toArray))] 113 [.agg (rcvL c.r (cS Z c Y)).toArray] (some 19) rfl (bw fun ww hf => ysReceiverOk_c c.r (cS Z c Y) ww (hf _ m0) (by assumption) (by omega)) ?_
 intro _
 refine dn 3 [1,22] [(1,.p 0 0),(22,aB (!(rO c.r)))] <| kP 22 (!(rO c.r)) (fun h3 => ?_) (fun h3 => ?_)
 have h3n := aa h3
 refine am [1,52] [(1,.p 0 0),(52,aB true)] ?_
 show Wk _ _
 try rw [h1]
 try rw [h2]
 try rw [h3]
 exact kF 1 0 [1,52]
 have h3n := ak h3
 refine kCS 2 [1,22,24] [(1,.p 0 0),(22,aB false),(24,.v (.agg (optL c.o).toArray))] 85 [.agg (optL c.o).toArray] (some 25) rfl (bw fun ww hf => sOptionsOk_c c.o.mss c.o.scale c.o.sack c.o.stamp c.o.val c.o.echo ww ) ?_
 intro _
 refine dn 3 [1,28] [(1,.p 0 0),(28,aB (!(aQ c.o)))] <| kP 28 (!(aQ c.o)) (fun h4 => ?_) (fun h4 => ?_)
 have h4n := aa h4
 refine am [1,52] [(1,.p 0 0),(52,aB true)] ?_
 show Wk _ _
 try rw [h1]
 try rw [h2]
 try rw [h3]
 try rw [h4]
 exact kF 1 0 [1,52]
 have h4n := ak h4
 refine kCS 2 [1,28,30] [(1,.p 0 0),(28,aB false),(30,aI c.state)] 46 [iI c.state,iI 1,iI 8] (some 31) rfl (cw fun ww hf => ca c.state 1 8 ww ) ?_
 intro _
 refine dn 3 [1,34] [(1,.p 0 0),(34,aB (!(aX c.state 1 8)))] <| kP 34 (!(aX c.state 1 8)) (fun h5 => ?_) (fun h5 => ?_)
 have h5n := aa h5
 refine am [1,52] [(1,.p 0 0),(52,aB true)] ?_
 show Wk _ _
 try rw [h1]
 try rw [h2]
 try rw [h3]
 try rw [h4]
 try rw [h5]
 exact kF 1 0 [1,52]
 have h5n := ak h5
 refine kCS 4 [1,34,36,38] [(1,.p 0 0),(34,aB false),(36,aI c.window),(38,aI c.most)] 46 [iI c.window,iI 0,iI c.most] (some 39) rfl (cw fun ww hf => ca c.window 0 c.most ww ) ?_
 intro _
 refine dn 3 [1,42] [(1,.p 0 0),(42,aB (!(aX c.window 0 c.most)))] <| kP 42 (!(aX c.window 0 c.most)) (fun h6 => ?_) (fun h6 => ?_)
 have h6n := aa h6
 refine am [1,52] [(1,.p 0 0),(52,aB true)] ?_
 show Wk _ _
 try rw [h1]
 try rw [h2]
 try rw [h3]
 try rw [h4]
 try rw [h5]
 try rw [h6]
 exact kF 1 0 [1,52]
 have h6n := ak h6
 refine dn 5 [1,47] [(1,.p 0 0),(47,aB (decide (c.most > 1073725440)))] <| kP 47 (decide (c.most > 1073725440)) (fun h7 => ?_) (fun h7 => ?_)
 have h7p := of_decide_eq_true h7
 refine am [1,52] [(1,.p 0 0),(52,aB true)] ?_
 show Wk _ _
 try rw [h1]
 try rw [h2]
 try rw [h3]
 try rw [h4]
 try rw [h5]
 try rw [h6]
 try rw [h7]
 exact kF 1 0 [1,52]
 have h7p := of_decide_eq_false h7
 refine kCS 2 [1,47,49] [(1,.p 0 0),(47,aB false),(49,aI c.tries)] 46 [iI c.tries,iI 0,iI 3] (some 50) rfl (cw fun ww hf => ca c.tries 0 3 ww ) ?_
 intro _
 refine am [1,52] [(1,.p 0 0),(52,aB (!(aX c.tries 0 3)))] ?_
 show Wk _ _
 try rw [h1]
 try rw [h2]
 try rw [h3]
 try rw [h4]
 try rw [h5]
 try rw [h6]
 try rw [h7]
 exact kF 1 0 [1,52]
 refine kC ((!(bj c.t)) || ((!(bh c.s)) || ((!(rO c.r)) || ((!(aQ c.o)) || ((!(aX c.state 1 8)) || ((!(aX c.window 0 c.most)) || ((decide (c.most > 1073725440)) || (!(aX c.tries 0 3))))))))) (fun h8 => ?_) (fun h8 => ?_)
 refine kQ <| am [2] [(2,aB false)] <| kR ?_
 exact ⟨[.bool false],by kernel_rfl,fun w' hb hf => ⟨a7 (show (false : Bool) = aY c from by first | rfl | (simp [aY,aF,aE,ap, *]; done) | (clear hm hf hb; simp_all [aY,aF,aE,ap]; done) | grind [aY,aF,aE,ap,aX]),hb⟩⟩
 have h8l := or_l h8
 have h8ln := ak h8l
 have h8r := or_r h8
 have h8rl := or_l h8r
 have h8rln := ak h8rl
 have h8rr := or_r h8r
 have h8rrl := or_l h8rr
 have h8rrln := ak h8rrl
 have h8rrr := or_r h8rr
 have h8rrrl := or_l h8rrr
 have h8rrrln := ak h8rrrl
 have h8rrrr := or_r h8rrr
 have h8rrrrl := or_l h8rrrr
 have h8rrrrln := ak h8rrrrl
 have h8rrrrr := or_r h8rrrr
 have h8rrrrrl := or_l h8rrrrr
 have h8rrrrrln := ak h8rrrrrl
 have h8rrrrrr := or_r h8rrrrr
 have h8rrrrrrl := or_l h8rrrrrr
 have h8rrrrrrr := or_r h8rrrrrr
 have h8rrrrrrrn := ak h8rrrrrrr
 refine kK <| kQ <| am [1,3] [(1,.p 0 0),(3,aI 3)] <| kS <| kQ <| am [1,3,55] [(1,.p 0 0),(3,aI 3),(55,aB (c.state == 7))] ?_
 refine bS ⟨[(1,.p 0 0),(3,aI (if (c.state == 7) = true then 4 else 3))],[⟨108,co c (cS Z c Y)⟩],[],[cH Z c Y]⟩ ?_ ?_
 refine kC (c.state == 7) (fun h9 => ?_) (fun h9 => ?_)
 have h9p := eqT h9
 refine kG <| am [1,3] [(1,.p 0 0),(3,aI 4)] ?_
 show Wk _ _; rw [h9]; exact kF 1 0 [1,3]
 have h9p := eqF h9
 refine kK ?_
 show Wk _ _; rw [h9]; exact kF 1 0 [1,3]
 refine kS <| kQ <| kCS 3 [1,57,58] [(1,.p 0 0),(57,aI c.timer),(58,aI (if (c.state == 7) = true then 4 else 3))] 46 [iI c.timer,iI 0,iI (if (c.state == 7) = true then 4 else 3)] (some 59) rfl (cw fun ww hf => ca c.timer 0 (if (c.state == 7) = true then 4 else 3) ww ) ?_
 intro _
 refine am [1,60] [(1,.p 0 0),(60,aB (!(aX c.timer 0 (if (c.state == 7) = true then 4 else 3))))] <| kC (!(aX c.timer 0 (if (c.state == 7) = true then 4 else 3))) (fun h10 => ?_) (fun h10 => ?_)
 have h10n := aa h10
 have h10np := h10n; simp only [beq_iff_eq,bne_iff_ne,beq_eq_false_iff_ne,bne_eq_false_iff_eq,ne_eq,aK] at h10np
 refine kQ <| am [2] [(2,aB false)] <| kR ?_
 exact ⟨[.bool false],by kernel_rfl,fun w' hb hf => ⟨a7 (show (false : Bool) = aY c from by first | rfl | (simp [aY,aF,aE,ap, *]; done) | (clear hm hf hb; simp_all [aY,aF,aE,ap]; done) | grind [aY,aF,aE,ap,aX]),hb⟩⟩
 have h10n := ak h10
 have h10np := h10n; simp only [beq_iff_eq,bne_iff_ne,beq_eq_false_iff_ne,bne_eq_false_iff_eq,ne_eq,aK] at h10np
 refine kK <| kS <| kQ <| am [1,63] [(1,.p 0 0),(63,aB (c.state == 8))] ?_
 refine kC (c.state == 8) (fun h11 => ?_) (fun h11 => ?_)
 have h11p := eqT h11
 refine kQ <| am [2] [(2,aB true)] <| kR ?_
 exact ⟨[.bool true],by kernel_rfl,fun w' hb hf => ⟨a7 (show (true : Bool) = aY c from by first | rfl | (simp [aY,aF,aE,ap, *]; done) | (clear hm hf hb; simp_all [aY,aF,aE,ap]; done) | grind [aY,aF,aE,ap,aX]),hb⟩⟩
 have h11p := eqF h11
 refine kK <| kS <| bS ⟨[(1,.p 0 0),(4,aB ((c.state == 3) || (c.state == 7)))],[⟨108,co c (cS Z c Y)⟩],[],[cH Z c Y]⟩ ?_ ?_
 refine kG <| dn 4 [1,67] [(1,.p 0 0),(67,aB (c.state == 3))] <| kP 67 (c.state == 3) (fun h12 => ?_) (fun h12 => ?_)
 have h12p := eqT h12
 refine am [1,4] [(1,.p 0 0),(4,aB true)] ?_
 show Wk _ _
 try rw [h12]
 exact kF 1 0 [1,4]
 have h12p := eqF h12
 refine am [1,4] [(1,.p 0 0),(4,aB (c.state == 7))] ?_
 show Wk _ _
 try rw [h12]
 exact kF 1 0 [1,4]
 refine kS <| bS ⟨[(1,.p 0 0),(4,aB ((c.state == 3) || (c.state == 7))),(5,aB ((c.state == 4) || (decide (c.state ≥ 5))))],[⟨108,co c (cS Z c Y)⟩],[],[cH Z c Y]⟩ ?_ ?_
 refine kG <| dn 4 [1,4,75] [(1,.p 0 0),(4,aB ((c.state == 3) || (c.state == 7))),(75,aB (c.state == 4))] <| kP 75 (c.state == 4) (fun h13 => ?_) (fun h13 => ?_)
 have h13p := eqT h13
 refine am [1,4,5] [(1,.p 0 0),(4,aB ((c.state == 3) || (c.state == 7))),(5,aB true)] ?_
 show Wk _ _
 try rw [h13]
 exact kF 1 0 [1,4,5]
 have h13p := eqF h13
 refine am [1,4,5] [(1,.p 0 0),(4,aB ((c.state == 3) || (c.state == 7))),(5,aB (decide (c.state ≥ 5)))] ?_
 show Wk _ _
 try rw [h13]
 exact kF 1 0 [1,4,5]
 refine kS <| bS ⟨[(2,aB ((c.s.fin == (decide (c.state ≠ 1 ∧ c.state ≠ 4))) && ((c.s.done == ((c.state == 3) || (c.state == 7))) && (c.r.done == ((c.state == 4) || (decide (c.state ≥ 5)))))))],[⟨108,co c (cS Z c Y)⟩],[],[cH Z c Y]⟩ ?_ ?_
 refine xe_region [] (by kernel_rfl) (fun ρ σ => ?_)
 refine kTS [0,1,2,3,4] [84,82,1,4,5] 17 [(84,aI c.state),(82,aB c.s.fin),(1,.p 0 0),(4,aB ((c.state == 3) || (c.state == 7))),(5,aB ((c.state == 4) || (decide (c.state ≥ 5))))] <| kA [5] <| kSC 5 114 [iI c.state] (some 85) rfl (bw fun ww hf => l19Fin_c c.state ww ) ?_
 intro _
 refine kTS [6,7] [87,1,4,5] 14 [(87,aB (c.s.fin == (decide (c.state ≠ 1 ∧ c.state ≠ 4)))),(1,.p 0 0),(4,aB ((c.state == 3) || (c.state == 7))),(5,aB ((c.state == 4) || (decide (c.state ≥ 5))))] <| kY 87 (c.s.fin == (decide (c.state ≠ 1 ∧ c.state ≠ 4))) (fun h14 => ?_) (fun h14 => ?_)
 have h14p := eqT h14
 refine kTS [8,9,10,11,12,13,14] [94,1,5] 7 [(94,aB (c.s.done == ((c.state == 3) || (c.state == 7)))),(1,.p 0 0),(5,aB ((c.state == 4) || (decide (c.state ≥ 5))))] <| kY 94 (c.s.done == ((c.state == 3) || (c.state == 7))) (fun h15 => ?_) (fun h15 => ?_)
 have h15p := eqT h15
 refine kTS [15,16,17,18,19,20,21] [2] 0 [(2,aB (c.r.done == ((c.state == 4) || (decide (c.state ≥ 5)))))] <| kZ ?_
 show Wk _ _
 try rw [h14]
 try rw [h15]
 exact kF 1 0 [2]
 have h15p := eqF h15
 refine kTS [15,16,17,18,19,20,21] [2] 0 [(2,aB false)] <| kZ ?_
 show Wk _ _
 try rw [h14]
 try rw [h15]
 exact kF 1 0 [2]
 have h14p := eqF h14
 refine kTS [8,9,10,11,12,13,14,15,16,17,18,19,20,21] [2] 0 [(2,aB false)] <| kZ ?_
 show Wk _ _
 try rw [h14]
 exact kF 1 0 [2]
 refine kR ?_
 exact ⟨[.bool ((c.s.fin == (decide (c.state ≠ 1 ∧ c.state ≠ 4))) && ((c.s.done == ((c.state == 3) || (c.state == 7))) && (c.r.done == ((c.state == 4) || (decide (c.state ≥ 5))))))],by kernel_rfl,fun w' hb hf => ⟨a7 (show ((c.s.fin == (decide (c.state ≠ 1 ∧ c.state ≠ 4))) && ((c.s.done == ((c.state == 3) || (c.state == 7))) && (c.r.done == ((c.state == 4) || (decide (c.state ≥ 5))))) : Bool) = aY c from by first | rfl | (simp [aY,aF,aE,ap, *]; done) | (clear hm hf hb; simp_all [aY,aF,aE,ap]; done) | grind [aY,aF,aE,ap,aX]),hb⟩⟩
theorem yiConnOk_c (c : Con) (rV : Value) (w : World) (hZ : Sl w rV 2 (c.r.held.map pC)) (hm : ∀ p ∈ c.r.held, p.text.size ≤ 1048576) (hsz : c.r.data.size ≤ 4611686018427387904) : Calls Try.prog 89 #[.agg (co c rV).toArray] w fun e w' => e = .returned (.bool (aY c)) ∧ Below w.heap.size w w' := by
 obtain ⟨Z,Y,hY⟩ := hZ.form
 rw [List.length_map] at hY; subst hY
 have hJ := hZ.len; rw [List.length_map] at hJ
 have hqcrh := Sl.capLe hZ
 refine aj (args := [.agg (co c (cS Z c Y)).toArray]) (fn := Try.f89) [cH Z c Y] Try.func89 rfl Try.ntmps89 rfl (by simp only [List.mem_cons,List.not_mem_nil,or_false,forall_eq_or_imp,forall_eq]; exact ⟨rfl,hZ⟩) ?_
 refine kQ <| cY [1] ⟨[(1,.p 0 0)],[⟨108,co c (cS Z c Y)⟩],[],[cH Z c Y]⟩ <| kS <| kS <| bS ⟨[(1,.p 0 0),(34,aB ((!(bj c.t)) || ((!(bh c.s)) || ((!(rO c.r)) || ((!(aQ c.o)) || (!(aX c.state 1 8)))))))],[⟨108,co c (cS Z c Y)⟩],[],[cH Z c Y]⟩ ?_ ?_
 refine kG <| kCS 2 [1,8] [(1,.p 0 0),(8,.v (.agg (bX c.t).toArray))] 91 [.agg (bX c.t).toArray] (some 9) rfl (bw fun ww hf => iTupleOk_c c.t.ip c.t.port c.t.my ww ) ?_
 intro _
 refine dn 2 [1,11] [(1,.p 0 0),(11,aB (!(bj c.t)))] <| kP 11 (!(bj c.t)) (fun h1 => ?_) (fun h1 => ?_)
 have h1n := aa h1
 refine am [1,34] [(1,.p 0 0),(34,aB true)] ?_
 show Wk _ _
 try rw [h1]
 exact kF 1 0 [1,34]
 have h1n := ak h1
 refine kCS 2 [1,11,13] [(1,.p 0 0),(11,aB false),(13,.v (.agg (sndL c.s).toArray))] 117 [.agg (sndL c.s).toArray] (some 14) rfl (bw fun ww hf => iSenderOk_c c.s.una c.s.data c.s.sent c.s.fin c.s.finSent c.s.done ww ) ?_
 intro _
 refine dn 3 [1,17] [(1,.p 0 0),(17,aB (!(bh c.s)))] <| kP 17 (!(bh c.s)) (fun h2 => ?_) (fun h2 => ?_)
 have h2n := aa h2
 refine am [1,34] [(1,.p 0 0),(34,aB true)] ?_
 show Wk _ _
 try rw [h1]
 try rw [h2]
 exact kF 1 0 [1,34]
 have h2n := ak h2
 refine kCS 2 [1,17,19] [(1,.p 0 0),(17,aB false),(19,.v (.agg (rcvL c.r (cS Z c Y)).toArray))] 118 [.agg (rcvL c.r (cS Z c Y)).toArray] (some 20) rfl (bw fun ww hf => yiReceiverOk_c c.r (cS Z c Y) ww (hf _ m0) (by assumption) (by omega)) ?_
 intro _
 refine dn 3 [1,23] [(1,.p 0 0),(23,aB (!(rO c.r)))] <| kP 23 (!(rO c.r)) (fun h3 => ?_) (fun h3 => ?_)
 have h3n := aa h3
 refine am [1,34] [(1,.p 0 0),(34,aB true)] ?_
 show Wk _ _
 try rw [h1]
 try rw [h2]
 try rw [h3]
 exact kF 1 0 [1,34]
 have h3n := ak h3
 refine kCS 2 [1,23,25] [(1,.p 0 0),(23,aB false),(25,.v (.agg (optL c.o).toArray))] 92 [.agg (optL c.o).toArray] (some 26) rfl (bw fun ww hf => iOptionsOk_c c.o.mss c.o.scale c.o.sack c.o.stamp c.o.val c.o.echo ww ) ?_
 intro _
 refine dn 3 [1,29] [(1,.p 0 0),(29,aB (!(aQ c.o)))] <| kP 29 (!(aQ c.o)) (fun h4 => ?_) (fun h4 => ?_)
 have h4n := aa h4
 refine am [1,34] [(1,.p 0 0),(34,aB true)] ?_
 show Wk _ _
 try rw [h1]
 try rw [h2]
 try rw [h3]
 try rw [h4]
 exact kF 1 0 [1,34]
 have h4n := ak h4
 refine kCS 2 [1,29,31] [(1,.p 0 0),(29,aB false),(31,aI c.state)] 52 [iI c.state,iI 1,iI 8] (some 32) rfl (cw fun ww hf => bk c.state 1 8 ww ) ?_
 intro _
 refine am [1,34] [(1,.p 0 0),(34,aB (!(aX c.state 1 8)))] ?_
 show Wk _ _
 try rw [h1]
 try rw [h2]
 try rw [h3]
 try rw [h4]
 exact kF 1 0 [1,34]
 refine kC ((!(bj c.t)) || ((!(bh c.s)) || ((!(rO c.r)) || ((!(aQ c.o)) || (!(aX c.state 1 8)))))) (fun h5 => ?_) (fun h5 => ?_)
 refine kQ <| am [2] [(2,aB false)] <| kR ?_
 exact ⟨[.bool false],by kernel_rfl,fun w' hb hf => ⟨a7 (show (false : Bool) = aY c from by first | rfl | (simp [aY,aF,aE,ap, *]; done) | (clear hm hf hb; simp_all [aY,aF,aE,ap]; done) | grind [aY,aF,aE,ap,aX]),hb⟩⟩
 have h5l := or_l h5
 have h5ln := ak h5l
 have h5r := or_r h5
 have h5rl := or_l h5r
 have h5rln := ak h5rl
 have h5rr := or_r h5r
 have h5rrl := or_l h5rr
 have h5rrln := ak h5rrl
 have h5rrr := or_r h5rr
 have h5rrrl := or_l h5rrr
 have h5rrrln := ak h5rrrl
 have h5rrrr := or_r h5rrr
 have h5rrrrn := ak h5rrrr
 refine kK <| kQ <| am [1,3] [(1,.p 0 0),(3,aI 3)] <| kS <| kQ <| am [1,3,37] [(1,.p 0 0),(3,aI 3),(37,aB (c.state == 7))] ?_
 refine bS ⟨[(1,.p 0 0),(3,aI (if (c.state == 7) = true then 4 else 3))],[⟨108,co c (cS Z c Y)⟩],[],[cH Z c Y]⟩ ?_ ?_
 refine kC (c.state == 7) (fun h6 => ?_) (fun h6 => ?_)
 have h6p := eqT h6
 refine kG <| am [1,3] [(1,.p 0 0),(3,aI 4)] ?_
 show Wk _ _; rw [h6]; exact kF 1 0 [1,3]
 have h6p := eqF h6
 refine kK ?_
 show Wk _ _; rw [h6]; exact kF 1 0 [1,3]
 refine kS <| kS <| bS ⟨[(1,.p 0 0),(62,aB ((!(aX c.most 0 1073725440)) || ((!(aX c.window 0 c.most)) || ((!(aX c.timer 0 (if (c.state == 7) = true then 4 else 3))) || (!(aX c.tries 0 3))))))],[⟨108,co c (cS Z c Y)⟩],[],[cH Z c Y]⟩ ?_ ?_
 refine kG <| kCS 2 [1,3,39] [(1,.p 0 0),(3,aI (if (c.state == 7) = true then 4 else 3)),(39,aI c.most)] 52 [iI c.most,iI 0,iI 1073725440] (some 40) rfl (cw fun ww hf => bk c.most 0 1073725440 ww ) ?_
 intro _
 refine dn 2 [1,3,42] [(1,.p 0 0),(3,aI (if (c.state == 7) = true then 4 else 3)),(42,aB (!(aX c.most 0 1073725440)))] <| kP 42 (!(aX c.most 0 1073725440)) (fun h7 => ?_) (fun h7 => ?_)
 have h7n := aa h7
 refine am [1,62] [(1,.p 0 0),(62,aB true)] ?_
 show Wk _ _
 try rw [h7]
 exact kF 1 0 [1,62]
 have h7n := ak h7
 refine kCS 4 [1,3,42,44,46] [(1,.p 0 0),(3,aI (if (c.state == 7) = true then 4 else 3)),(42,aB false),(44,aI c.window),(46,aI c.most)] 52 [iI c.window,iI 0,iI c.most] (some 47) rfl (cw fun ww hf => bk c.window 0 c.most ww ) ?_
 intro _
 refine dn 3 [1,3,50] [(1,.p 0 0),(3,aI (if (c.state == 7) = true then 4 else 3)),(50,aB (!(aX c.window 0 c.most)))] <| kP 50 (!(aX c.window 0 c.most)) (fun h8 => ?_) (fun h8 => ?_)
 have h8n := aa h8
 refine am [1,62] [(1,.p 0 0),(62,aB true)] ?_
 show Wk _ _
 try rw [h7]
 try rw [h8]
 exact kF 1 0 [1,62]
 have h8n := ak h8
 refine kCS 3 [1,50,52,53] [(1,.p 0 0),(50,aB false),(52,aI c.timer),(53,aI (if (c.state == 7) = true then 4 else 3))] 52 [iI c.timer,iI 0,iI (if (c.state == 7) = true then 4 else 3)] (some 54) rfl (cw fun ww hf => bk c.timer 0 (if (c.state == 7) = true then 4 else 3) ww ) ?_
 intro _
 refine dn 3 [1,57] [(1,.p 0 0),(57,aB (!(aX c.timer 0 (if (c.state == 7) = true then 4 else 3))))] <| kP 57 (!(aX c.timer 0 (if (c.state == 7) = true then 4 else 3))) (fun h9 => ?_) (fun h9 => ?_)
 have h9n := aa h9
 have h9np := h9n; simp only [beq_iff_eq,bne_iff_ne,beq_eq_false_iff_ne,bne_eq_false_iff_eq,ne_eq,aK] at h9np
 refine am [1,62] [(1,.p 0 0),(62,aB true)] ?_
 show Wk _ _
 try rw [h7]
 try rw [h8]
 try rw [h9]
 exact kF 1 0 [1,62]
 have h9n := ak h9
 have h9np := h9n; simp only [beq_iff_eq,bne_iff_ne,beq_eq_false_iff_ne,bne_eq_false_iff_eq,ne_eq,aK] at h9np
 refine kCS 2 [1,57,59] [(1,.p 0 0),(57,aB false),(59,aI c.tries)] 52 [iI c.tries,iI 0,iI 3] (some 60) rfl (cw fun ww hf => bk c.tries 0 3 ww ) ?_
 intro _
 refine am [1,62] [(1,.p 0 0),(62,aB (!(aX c.tries 0 3)))] ?_
 show Wk _ _
 try rw [h7]
 try rw [h8]
 try rw [h9]
 exact kF 1 0 [1,62]
 refine kC ((!(aX c.most 0 1073725440)) || ((!(aX c.window 0 c.most)) || ((!(aX c.timer 0 (if (c.state == 7) = true then 4 else 3))) || (!(aX c.tries 0 3))))) (fun h10 => ?_) (fun h10 => ?_)
 refine kQ <| am [2] [(2,aB false)] <| kR ?_
 exact ⟨[.bool false],by kernel_rfl,fun w' hb hf => ⟨a7 (show (false : Bool) = aY c from by first | rfl | (simp [aY,aF,aE,ap, *]; done) | (clear hm hf hb; simp_all [aY,aF,aE,ap]; done) | grind [aY,aF,aE,ap,aX]),hb⟩⟩
 have h10l := or_l h10
 have h10ln := ak h10l
 have h10r := or_r h10
 have h10rl := or_l h10r
 have h10rln := ak h10rl
 have h10rr := or_r h10r
 have h10rrl := or_l h10rr
 have h10rrln := ak h10rrl
 have h10rrlnp := h10rrln; simp only [beq_iff_eq,bne_iff_ne,beq_eq_false_iff_ne,bne_eq_false_iff_eq,ne_eq,aK] at h10rrlnp
 have h10rrr := or_r h10rr
 have h10rrrn := ak h10rrr
 refine kK <| kS <| xe_region [] (by kernel_rfl) (fun ρ σ => ?_)
 refine kTS [0,1,2,3,4,5,6,7,8,9,10,11] [6,5,4,1] 0 [(6,aB c.r.done),(5,aB c.s.done),(4,aB c.s.fin),(1,.p 0 0)] <| kZ <| kS <| kQ <| am [4,5,6,73] [(4,aB c.s.fin),(5,aB c.s.done),(6,aB c.r.done),(73,aI c.state)] ?_
 refine au <| kQ <| am [4,5,6,73,74] [(4,aB c.s.fin),(5,aB c.s.done),(6,aB c.r.done),(73,aI c.state),(74,aB (c.state == 1))] <| kC (c.state == 1) (fun h11 => ?_) (fun h11 => ?_)
 have h11p := eqT h11
 refine kS <| bS ⟨[(2,aB ((!c.s.fin) && ((!c.s.done) && (!c.r.done))))],[⟨108,co c (cS Z c Y)⟩],[],[cH Z c Y]⟩ ?_ ?_
 refine kG <| dn 3 [5,6,78] [(5,aB c.s.done),(6,aB c.r.done),(78,aB (!c.s.fin))] <| kP 78 (!c.s.fin) (fun h12 => ?_) (fun h12 => ?_)
 have h12n := aa h12
 refine dn 4 [6,82] [(6,aB c.r.done),(82,aB (!c.s.done))] <| kP 82 (!c.s.done) (fun h13 => ?_) (fun h13 => ?_)
 have h13n := aa h13
 refine am [2] [(2,aB (!c.r.done))] ?_
 show Wk _ _
 try rw [h12]
 try rw [h13]
 exact kF 1 0 [2]
 have h13n := ak h13
 refine am [2] [(2,aB false)] ?_
 show Wk _ _
 try rw [h12]
 try rw [h13]
 exact kF 1 0 [2]
 have h12n := ak h12
 refine am [2] [(2,aB false)] ?_
 show Wk _ _
 try rw [h12]
 exact kF 1 0 [2]
 refine kR ?_
 exact ⟨[.bool ((!c.s.fin) && ((!c.s.done) && (!c.r.done)))],by kernel_rfl,fun w' hb hf => ⟨a7 (show ((!c.s.fin) && ((!c.s.done) && (!c.r.done)) : Bool) = aY c from by first | rfl | (simp [aY,aF,aE,ap, *]; done) | (clear hm hf hb; simp_all [aY,aF,aE,ap]; done) | grind [aY,aF,aE,ap,aX]),hb⟩⟩
 have h11p := eqF h11
 refine kQ <| am [4,5,6,73,86] [(4,aB c.s.fin),(5,aB c.s.done),(6,aB c.r.done),(73,aI c.state),(86,aB (c.state == 2))] <| kC (c.state == 2) (fun h14 => ?_) (fun h14 => ?_)
 have h14p := eqT h14
 refine kS <| bS ⟨[(2,aB (c.s.fin && ((!c.s.done) && (!c.r.done))))],[⟨108,co c (cS Z c Y)⟩],[],[cH Z c Y]⟩ ?_ ?_
 refine kG <| dn 2 [5,6,89] [(5,aB c.s.done),(6,aB c.r.done),(89,aB c.s.fin)] <| kP 89 (c.s.fin) (fun h15 => ?_) (fun h15 => ?_)
 refine dn 4 [6,93] [(6,aB c.r.done),(93,aB (!c.s.done))] <| kP 93 (!c.s.done) (fun h16 => ?_) (fun h16 => ?_)
 have h16n := aa h16
 refine am [2] [(2,aB (!c.r.done))] ?_
 show Wk _ _
 try rw [h15]
 try rw [h16]
 exact kF 1 0 [2]
 have h16n := ak h16
 refine am [2] [(2,aB false)] ?_
 show Wk _ _
 try rw [h15]
 try rw [h16]
 exact kF 1 0 [2]
 refine am [2] [(2,aB false)] ?_
 show Wk _ _
 try rw [h15]
 exact kF 1 0 [2]
 refine kR ?_
 exact ⟨[.bool (c.s.fin && ((!c.s.done) && (!c.r.done)))],by kernel_rfl,fun w' hb hf => ⟨a7 (show (c.s.fin && ((!c.s.done) && (!c.r.done)) : Bool) = aY c from by first | rfl | (simp [aY,aF,aE,ap, *]; done) | (clear hm hf hb; simp_all [aY,aF,aE,ap]; done) | grind [aY,aF,aE,ap,aX]),hb⟩⟩
 have h14p := eqF h14
 refine kQ <| am [4,5,6,73,97] [(4,aB c.s.fin),(5,aB c.s.done),(6,aB c.r.done),(73,aI c.state),(97,aB (c.state == 3))] <| kC (c.state == 3) (fun h17 => ?_) (fun h17 => ?_)
 have h17p := eqT h17
 refine kS <| bS ⟨[(2,aB (c.s.fin && (c.s.done && (!c.r.done))))],[⟨108,co c (cS Z c Y)⟩],[],[cH Z c Y]⟩ ?_ ?_
 refine kG <| dn 2 [5,6,100] [(5,aB c.s.done),(6,aB c.r.done),(100,aB c.s.fin)] <| kP 100 (c.s.fin) (fun h18 => ?_) (fun h18 => ?_)
 refine dn 3 [6,103] [(6,aB c.r.done),(103,aB c.s.done)] <| kP 103 (c.s.done) (fun h19 => ?_) (fun h19 => ?_)
 refine am [2] [(2,aB (!c.r.done))] ?_
 show Wk _ _
 try rw [h18]
 try rw [h19]
 exact kF 1 0 [2]
 refine am [2] [(2,aB false)] ?_
 show Wk _ _
 try rw [h18]
 try rw [h19]
 exact kF 1 0 [2]
 refine am [2] [(2,aB false)] ?_
 show Wk _ _
 try rw [h18]
 exact kF 1 0 [2]
 refine kR ?_
 exact ⟨[.bool (c.s.fin && (c.s.done && (!c.r.done)))],by kernel_rfl,fun w' hb hf => ⟨a7 (show (c.s.fin && (c.s.done && (!c.r.done)) : Bool) = aY c from by first | rfl | (simp [aY,aF,aE,ap, *]; done) | (clear hm hf hb; simp_all [aY,aF,aE,ap]; done) | grind [aY,aF,aE,ap,aX]),hb⟩⟩
 have h17p := eqF h17
 refine kQ <| am [4,5,6,73,107] [(4,aB c.s.fin),(5,aB c.s.done),(6,aB c.r.done),(73,aI c.state),(107,aB (c.state == 4))] <| kC (c.state == 4) (fun h20 => ?_) (fun h20 => ?_)
 have h20p := eqT h20
 refine kS <| bS ⟨[(2,aB ((!c.s.fin) && ((!c.s.done) && c.r.done)))],[⟨108,co c (cS Z c Y)⟩],[],[cH Z c Y]⟩ ?_ ?_
 refine kG <| dn 3 [5,6,111] [(5,aB c.s.done),(6,aB c.r.done),(111,aB (!c.s.fin))] <| kP 111 (!c.s.fin) (fun h21 => ?_) (fun h21 => ?_)
 have h21n := aa h21
 refine dn 4 [6,115] [(6,aB c.r.done),(115,aB (!c.s.done))] <| kP 115 (!c.s.done) (fun h22 => ?_) (fun h22 => ?_)
 have h22n := aa h22
 refine am [2] [(2,aB c.r.done)] ?_
 show Wk _ _
 try rw [h21]
 try rw [h22]
 exact kF 1 0 [2]
 have h22n := ak h22
 refine am [2] [(2,aB false)] ?_
 show Wk _ _
 try rw [h21]
 try rw [h22]
 exact kF 1 0 [2]
 have h21n := ak h21
 refine am [2] [(2,aB false)] ?_
 show Wk _ _
 try rw [h21]
 exact kF 1 0 [2]
 refine kR ?_
 exact ⟨[.bool ((!c.s.fin) && ((!c.s.done) && c.r.done))],by kernel_rfl,fun w' hb hf => ⟨a7 (show ((!c.s.fin) && ((!c.s.done) && c.r.done) : Bool) = aY c from by first | rfl | (simp [aY,aF,aE,ap, *]; done) | (clear hm hf hb; simp_all [aY,aF,aE,ap]; done) | grind [aY,aF,aE,ap,aX]),hb⟩⟩
 have h20p := eqF h20
 refine kS <| kQ <| am [4,5,6,73,118] [(4,aB c.s.fin),(5,aB c.s.done),(6,aB c.r.done),(73,aI c.state),(118,aB (c.state == 5))] <| bS ⟨[(4,aB c.s.fin),(5,aB c.s.done),(6,aB c.r.done),(73,aI c.state),(118,aB (if (c.state == 5) = true then c.state == 5 else c.state == 6))],[⟨108,co c (cS Z c Y)⟩],[],[cH Z c Y]⟩ ?_ ?_
 refine kC (c.state == 5) (fun h23 => ?_) (fun h23 => ?_)
 have h23p := eqT h23
 refine kK ?_
 show Wk _ _; rw [h23]; exact kF 1 0 [4,5,6,73,118]
 have h23p := eqF h23
 refine kG <| am [4,5,6,73,118] [(4,aB c.s.fin),(5,aB c.s.done),(6,aB c.r.done),(73,aI c.state),(118,aB (c.state == 6))] ?_
 show Wk _ _; rw [h23]; exact kF 1 0 [4,5,6,73,118]
 refine kC (if (c.state == 5) = true then c.state == 5 else c.state == 6) (fun h24 => ?_) (fun h24 => ?_)
 have h24p := h24; simp only [beq_iff_eq,bne_iff_ne,beq_eq_false_iff_ne,bne_eq_false_iff_eq,ne_eq,aK] at h24p
 refine kS <| bS ⟨[(2,aB (c.s.fin && ((!c.s.done) && c.r.done)))],[⟨108,co c (cS Z c Y)⟩],[],[cH Z c Y]⟩ ?_ ?_
 refine kG <| dn 2 [5,6,122] [(5,aB c.s.done),(6,aB c.r.done),(122,aB c.s.fin)] <| kP 122 (c.s.fin) (fun h25 => ?_) (fun h25 => ?_)
 refine dn 4 [6,126] [(6,aB c.r.done),(126,aB (!c.s.done))] <| kP 126 (!c.s.done) (fun h26 => ?_) (fun h26 => ?_)
 have h26n := aa h26
 refine am [2] [(2,aB c.r.done)] ?_
 show Wk _ _
 try rw [h25]
 try rw [h26]
 exact kF 1 0 [2]
 have h26n := ak h26
 refine am [2] [(2,aB false)] ?_
 show Wk _ _
 try rw [h25]
 try rw [h26]
 exact kF 1 0 [2]
 refine am [2] [(2,aB false)] ?_
 show Wk _ _
 try rw [h25]
 exact kF 1 0 [2]
 refine kR ?_
 exact ⟨[.bool (c.s.fin && ((!c.s.done) && c.r.done))],by kernel_rfl,fun w' hb hf => ⟨a7 (show (c.s.fin && ((!c.s.done) && c.r.done) : Bool) = aY c from by first | rfl | (simp [aY,aF,aE,ap, *]; done) | (clear hm hf hb; simp_all [aY,aF,aE,ap]; done) | grind [aY,aF,aE,ap,aX]),hb⟩⟩
 have h24p := h24; simp only [beq_iff_eq,bne_iff_ne,beq_eq_false_iff_ne,bne_eq_false_iff_eq,ne_eq,aK] at h24p
 refine kQ <| am [4,5,6,129] [(4,aB c.s.fin),(5,aB c.s.done),(6,aB c.r.done),(129,aB (c.state == 7))] <| kC (c.state == 7) (fun h27 => ?_) (fun h27 => ?_)
 have h27p := eqT h27
 refine kS <| bS ⟨[(2,aB (c.s.fin && (c.s.done && c.r.done)))],[⟨108,co c (cS Z c Y)⟩],[],[cH Z c Y]⟩ ?_ ?_
 refine kG <| dn 2 [5,6,132] [(5,aB c.s.done),(6,aB c.r.done),(132,aB c.s.fin)] <| kP 132 (c.s.fin) (fun h28 => ?_) (fun h28 => ?_)
 refine dn 3 [6,135] [(6,aB c.r.done),(135,aB c.s.done)] <| kP 135 (c.s.done) (fun h29 => ?_) (fun h29 => ?_)
 refine am [2] [(2,aB c.r.done)] ?_
 show Wk _ _
 try rw [h28]
 try rw [h29]
 exact kF 1 0 [2]
 refine am [2] [(2,aB false)] ?_
 show Wk _ _
 try rw [h28]
 try rw [h29]
 exact kF 1 0 [2]
 refine am [2] [(2,aB false)] ?_
 show Wk _ _
 try rw [h28]
 exact kF 1 0 [2]
 refine kR ?_
 exact ⟨[.bool (c.s.fin && (c.s.done && c.r.done))],by kernel_rfl,fun w' hb hf => ⟨a7 (show (c.s.fin && (c.s.done && c.r.done) : Bool) = aY c from by first | rfl | (simp [aY,aF,aE,ap, *]; done) | (clear hm hf hb; simp_all [aY,aF,aE,ap]; done) | grind [aY,aF,aE,ap,aX]),hb⟩⟩
 have h27p := eqF h27
 refine kK <| kQ <| am [2] [(2,aB true)] <| kR ?_
 exact ⟨[.bool true],by kernel_rfl,fun w' hb hf => ⟨a7 (show (true : Bool) = aY c from by first | rfl | (simp [aY,aF,aE,ap, *]; done) | (clear hm hf hb; simp_all [aY,aF,aE,ap]; done) | grind [aY,aF,aE,ap,aX]),hb⟩⟩
def bY (x : Tab) (x_connsV : Value) (x_waitingV : Value) : List Value := [x_connsV, x_waitingV]
def aG (x : Mac) (x_rowsV : Value) : List Value := [.bool x.use, .int .u64 x.k, .int .u64 x.l, x_rowsV]
def cn (x : Kys) (x_now_rowsV : Value) (x_before_rowsV : Value) : List Value := [iI x.epoch, .bool x.now.use, .int .u64 x.now.k, .int .u64 x.now.l, x_now_rowsV, .bool x.before.use, .int .u64 x.before.k, .int .u64 x.before.l, x_before_rowsV, .bool x.two]
def cy (x : Dor) (x_keys_now_rowsV : Value) (x_keys_before_rowsV : Value) (x_halvesV : Value) (x_table_connsV : Value) (x_table_waitingV : Value) : List Value := [iI x.port, iI x.clock, iI x.keys.epoch, .bool x.keys.now.use, .int .u64 x.keys.now.k, .int .u64 x.keys.now.l, x_keys_now_rowsV, .bool x.keys.before.use, .int .u64 x.keys.before.k, .int .u64 x.keys.before.l, x_keys_before_rowsV, .bool x.keys.two, iI x.lim.halves, iI x.lim.waiting, iI x.lim.conns, iI x.lim.chal, x_halvesV, x_table_connsV, x_table_waitingV, iI x.chal]
theorem dZ (t : Tab) (t_connsV : Value) (t_waitingV : Value) (u : Tup) (w : World) (hl_t_connsV : Sl w t_connsV 25 (t.conns.map ah)) (hh_t_connsV : ∀ x ∈ t.conns, Sl w x.2 2 (x.1.r.held.map pC)) (hl_t_waitingV : Sl w t_waitingV 3 (t.waiting.map a8))  : Calls Try.prog 47 #[.agg (bY t t_connsV t_waitingV).toArray, .agg (bX u).toArray] w fun e w' => e = .returned (iI (ay t u)) ∧ Below w.heap.size w w' := by
 obtain ⟨Atc,Ctc,hvtc⟩ := hl_t_connsV.form
 rw [List.length_map] at hvtc; subst hvtc
 have hntc := hl_t_connsV.len; rw [List.length_map] at hntc
 have hqtc := Sl.capLe hl_t_connsV
 obtain ⟨Atw,Ctw,hvtw⟩ := hl_t_waitingV.form
 rw [List.length_map] at hvtw; subst hvtw
 have hntw := hl_t_waitingV.len; rw [List.length_map] at hntw
 have hqtw := Sl.capLe hl_t_waitingV
 refine aj (args := [.agg (bY t (.slice Atc t.conns.length Ctc) (.slice Atw t.waiting.length Ctw)).toArray,.agg (bX u).toArray]) (fn := Try.f47) [av (.slice Atc t.conns.length Ctc) 25 (t.conns.map ah),bx t.conns,av (.slice Atw t.waiting.length Ctw) 3 (t.waiting.map a8)] Try.func47 rfl Try.ntmps47 rfl (by simp only [List.mem_cons,List.not_mem_nil,or_false,forall_eq_or_imp,forall_eq]; exact ⟨⟨rfl,hl_t_connsV⟩,⟨rfl,hh_t_connsV⟩,⟨rfl,hl_t_waitingV⟩⟩) ?_
 refine kQ <| cY [2,3] ⟨[(2,.p 0 0),(3,.p 1 0)],[⟨49,bY t (.slice Atc t.conns.length Ctc) (.slice Atw t.waiting.length Ctw)⟩,⟨62,bX u⟩],[],[av (.slice Atc t.conns.length Ctc) 25 (t.conns.map ah),bx t.conns,av (.slice Atw t.waiting.length Ctw) 3 (t.waiting.map a8)]⟩ <| kS <| kQ <| ac [2,3,5] [(5,aI 0)] ?_
 refine au <| aA (α := {x : Nat // (fun (k : Nat) => k ≤ t.conns.length ∧ ∀ (i : Nat) (h' : CV),i < k → t.conns[i]? = some h' → aU h'.1.t u = false) x}) (fun x => (fun (k : Nat) => (⟨[(2,.p 0 0),(3,.p 1 0),(5,aI (k : Int))],[⟨49,bY t (.slice Atc t.conns.length Ctc) (.slice Atw t.waiting.length Ctw)⟩,⟨62,bX u⟩],[],[av (.slice Atc t.conns.length Ctc) 25 (t.conns.map ah),bx t.conns,av (.slice Atw t.waiting.length Ctw) 3 (t.waiting.map a8)]⟩ : St)) x.1) (fun x => t.conns.length - x.1) ⟨(0),⟨Nat.zero_le _,fun i x hi => by omega⟩⟩ (kF 2 0 [2,3,5]) ?_
 rintro ⟨k,hk,HK⟩
 try dsimp only
 try dsimp only at hk HK
 refine kS <| kQ <| ac [2,3,5,10] [(10,aB (decide ((k : Int) < ((t.conns.length : Nat) : Int))))] <| kC (decide ((k : Int) < ((t.conns.length : Nat) : Int))) (fun h1 => ?_) (fun h1 => ?_)
 have h1p := of_decide_eq_true h1
 have hlt : k < t.conns.length := by simpa using h1
 obtain ⟨x0,hx⟩ : ∃ x,t.conns[k]? = some x := ⟨_,List.getElem?_eq_getElem hlt⟩
 obtain ⟨x,xa,xc,rfl⟩ := db (hh_t_connsV x0 (List.mem_of_getElem? hx))
 refine kK <| kS <| au <| kS <| ci ?_
 refine cv (K := 25) (j := k) [iI x.t.ip,iI x.t.port,iI x.t.my,iI x.state,iI x.s.una,.string x.s.data,iI x.s.sent,.bool x.s.fin,.bool x.s.finSent,.bool x.s.done,iI x.r.next,.string x.r.data,.slice xa x.r.held.length xc,iI x.r.fin,.bool x.r.done,iI x.window,iI x.most,iI x.o.mss,iI x.o.scale,.bool x.o.sack,.bool x.o.stamp,iI x.o.val,iI x.o.echo,iI x.timer,iI x.tries] (av (.slice Atc t.conns.length Ctc) 25 (t.conns.map ah)) (fun _ _ h => h) (by simp) (fun w h => h) (fun b h => h) (by simp only [List.getElem?_map,hx]; rfl) (fun bq2 offq2 hAq2 => ?_)
 refine bQ [] (by kernel_rfl) (fun ρ σ hq3 => ?_)
 refine dm [0,1,2,6] [19,15,14,2,3,5] 4 [(19,.v (.agg (bX u).toArray)),(15,aI (k : Int)),(14,.v (.slice Atc t.conns.length Ctc))] <| bU (kd := .i64) (T := 46) (e := 108) (K := 25) (j := k) (A := Atc) (len := t.conns.length) (cap := Ctc) 3 0 _ rfl (by kernel_rfl) (by kernel_rfl) (by kernel_rfl) (fun _ _ h => h) (by kernel_rfl) rfl rfl (by kernel_rfl) (by kernel_rfl) (by kernel_rfl) (by kernel_rfl) hlt hAq2 hq3.2 (by kernel_rfl) rfl ?_
 refine dm [4,5] [18,19,2,3,5] 1 [(18,.v (.agg (bX x.t).toArray))] <| kX 7 (.bool (aU x.t u)) rfl (fun _ _ ww hA => act_bin hA rfl (by kernel_rfl) (by kernel_rfl) (agg_bin (by kernel_rfl) (dx x.t.ip x.t.port x.t.my u.ip u.port u.my ww))) ?_
 refine kZ <| kC (aU x.t u) (fun h4 => ?_) (fun h4 => ?_)
 have hfd := findConn_eq hx (by exact h4) HK
 refine kQ <| am [4] [(4,aI (k : Int))] <| kR ?_
 exact ⟨[iI (k : Int)],by kernel_rfl,fun w' hb hf => ⟨cG (show ((k : Int) : Int) = ay t u from by first | exact hfd.symm | exact hfn.symm),hb⟩⟩
 have hq : aU x.t u = false := by exact h4
 refine kK <| kG <| bB 3 [2,3,5] [(5,aI (K6.wrap ((k : Int) + 1)))] <| cz [2,3,5] [(5,aI (K6.wrap ((k : Int) + 1)))] [(5,aI ((k : Int) + 1))] (by rw [show (K6.wrap ((k : Int) + 1)) = ((k : Int) + 1) from aL (by omega) (by omega)]) (by kernel_rfl) ?_
 refine ac [2,3,5] [] ?_
 exact ⟨⟨(k + 1),⟨by omega,dk (p := fun c : CV => aU c.1.t u) hx hq HK⟩⟩,kF 2 0 [2,3,5],by show t.conns.length - (k + 1) < t.conns.length - k; omega⟩
 have h1p := of_decide_eq_false h1
 have hge : k = t.conns.length := by simp at h1; omega
 have hfn := findConn_no hge HK
 refine bu <| kQ <| am [4] [(4,aI (-1))] <| kR ?_
 exact ⟨[iI (-1)],by kernel_rfl,fun w' hb hf => ⟨cG (show ((-1) : Int) = ay t u from by first | exact hfd.symm | exact hfn.symm),hb⟩⟩
theorem yFindConn1_c (c : Con) (V : Value) (u : Tup) (g : Nat) (w : World) (hcell : (bZ g 62 [iI u.ip, iI u.port, iI u.my]).p w) : Calls Try.prog 96 #[.agg #[iI c.t.ip, iI c.t.port, iI c.t.my, iI c.state, iI c.s.una, .string c.s.data, iI c.s.sent, .bool c.s.fin, .bool c.s.finSent, .bool c.s.done, iI c.r.next, .string c.r.data, V, iI c.r.fin, .bool c.r.done, iI c.window, iI c.most, iI c.o.mss, iI c.o.scale, .bool c.o.sack, .bool c.o.stamp, iI c.o.val, iI c.o.echo, iI c.timer, iI c.tries], gP g] w fun e w' => e = .returned (.bool (aU c.t u)) ∧ Below w.heap.size w w' := by
 refine aj (args := [.agg #[iI c.t.ip,iI c.t.port,iI c.t.my,iI c.state,iI c.s.una,.string c.s.data,iI c.s.sent,.bool c.s.fin,.bool c.s.finSent,.bool c.s.done,iI c.r.next,.string c.r.data,V,iI c.r.fin,.bool c.r.done,iI c.window,iI c.most,iI c.o.mss,iI c.o.scale,.bool c.o.sack,.bool c.o.stamp,iI c.o.val,iI c.o.echo,iI c.timer,iI c.tries],gP g]) (fn := Try.f96) [bZ g 62 [iI u.ip,iI u.port,iI u.my]] Try.func96 rfl Try.ntmps96 rfl (by simp only [List.mem_cons,List.not_mem_nil,or_false,forall_eq_or_imp,forall_eq]; exact ⟨rfl,hcell⟩) ?_
 refine kQ <| cY [1,2] ⟨[(1,aP g),(2,.p 0 0)],[⟨108,[iI c.t.ip,iI c.t.port,iI c.t.my,iI c.state,iI c.s.una,.string c.s.data,iI c.s.sent,.bool c.s.fin,.bool c.s.finSent,.bool c.s.done,iI c.r.next,.string c.r.data,V,iI c.r.fin,.bool c.r.done,iI c.window,iI c.most,iI c.o.mss,iI c.o.scale,.bool c.o.sack,.bool c.o.stamp,iI c.o.val,iI c.o.echo,iI c.timer,iI c.tries]⟩],[],[bZ g 62 [iI u.ip,iI u.port,iI u.my]]⟩ <| kQ <| kOD 2 [1,5] [(5,.v (.agg (bX c.t).toArray))] (.agg (bX u).toArray) rfl (fun _ _ _ ww hr => ldK_run (off := 0) (g := g) (T := 62) (cs := [iI u.ip,iI u.port,iI u.my]) hr rfl (by kernel_rfl) (by simp) (by kernel_rfl)) ?_
 refine kOD 0 [5,6] [] (.bool (aU c.t u)) rfl (fun _ _ _ ww hr => act_bin hr.1 rfl (by kernel_rfl) (by kernel_rfl) (agg_bin (by kernel_rfl) (dx c.t.ip c.t.port c.t.my u.ip u.port u.my ww))) ?_
 refine am [3] [(3,aB (aU c.t u))] <| kR ?_
 exact ⟨[.bool (aU c.t u)],by kernel_rfl,fun w' hb hf => ⟨rfl,hb⟩⟩
theorem yIndexFConn_c (l : List CV) (lV : Value) (u : Tup) (g : Nat) (w : World) (hl_lV : Sl w lV 25 (l.map ah)) (hh_lV : ∀ x ∈ l, Sl w x.2 2 (x.1.r.held.map pC)) (hcell : (bZ g 62 [iI u.ip, iI u.port, iI u.my]).p w) : Calls Try.prog 95 #[lV, .func (.func 96) #[] #[gP g]] w fun e w' => e = .returned (iI (ay ⟨l, []⟩ u)) ∧ Below w.heap.size w w' := by
 obtain ⟨Al,Cl,hvl⟩ := hl_lV.form
 rw [List.length_map] at hvl; subst hvl
 have hnl := hl_lV.len; rw [List.length_map] at hnl
 have hql := Sl.capLe hl_lV
 refine aj (args := [.slice Al l.length Cl,.func (.func 96) #[] #[gP g]]) (fn := Try.f95) [av (.slice Al l.length Cl) 25 (l.map ah),bx l,bZ g 62 [iI u.ip,iI u.port,iI u.my]] Try.func95 rfl Try.ntmps95 rfl (by simp only [List.mem_cons,List.not_mem_nil,or_false,forall_eq_or_imp,forall_eq]; exact ⟨⟨rfl,hl_lV⟩,⟨rfl,hh_lV⟩,⟨rfl,hcell⟩⟩) ?_
 refine kQ <| cY [0,1] ⟨[(0,.v (.slice Al l.length Cl)),(1,.v (.func (.func 96) #[] #[gP g]))],[],[],[av (.slice Al l.length Cl) 25 (l.map ah),bx l,bZ g 62 [iI u.ip,iI u.port,iI u.my]]⟩ <| kS <| kQ <| ac [0,1,7,8] [(7,aI ((l.length : Nat) : Int)),(8,aI 0)] ?_
 refine au <| aA (α := {x : Nat // (fun (k : Nat) => k ≤ l.length ∧ ∀ (i : Nat) (h' : CV),i < k → l[i]? = some h' → aU h'.1.t u = false) x}) (fun x => (fun (k : Nat) => (⟨[(0,.v (.slice Al l.length Cl)),(1,.v (.func (.func 96) #[] #[gP g])),(7,aI ((l.length : Nat) : Int)),(8,aI (k : Int))],[],[],[av (.slice Al l.length Cl) 25 (l.map ah),bx l,bZ g 62 [iI u.ip,iI u.port,iI u.my]]⟩ : St)) x.1) (fun x => l.length - x.1) ⟨(0),⟨Nat.zero_le _,fun i x hi => by omega⟩⟩ (kF 0 0 [0,1,7,8]) ?_
 rintro ⟨k,hk,HK⟩
 try dsimp only
 try dsimp only at hk HK
 refine kQ <| ac [0,1,7,8,9] [(9,aB (decide ((k : Int) < ((l.length : Nat) : Int))))] <| kS <| kC (decide ((k : Int) < ((l.length : Nat) : Int))) (fun h1 => ?_) (fun h1 => ?_)
 have h1p := of_decide_eq_true h1
 have hlt : k < l.length := by simpa using h1
 obtain ⟨x0,hx⟩ : ∃ x,l[k]? = some x := ⟨_,List.getElem?_eq_getElem hlt⟩
 obtain ⟨x,xa,xc,rfl⟩ := db (hh_lV x0 (List.mem_of_getElem? hx))
 refine kK <| kS <| au <| kQ <| ac [0,1,5,7,8] [(5,aI (k : Int))] ?_
 refine kQ <| ba (kd := .i64) (T := 46) (e := 108) (K := 25) 3 [0,1,5,7,8,11,12,13] [(11,.v (.func (.func 96) #[] #[gP g])),(12,.v (.slice Al l.length Cl)),(13,aI (k : Int))] k [iI x.t.ip,iI x.t.port,iI x.t.my,iI x.state,iI x.s.una,.string x.s.data,iI x.s.sent,.bool x.s.fin,.bool x.s.finSent,.bool x.s.done,iI x.r.next,.string x.r.data,.slice xa x.r.held.length xc,iI x.r.fin,.bool x.r.done,iI x.window,iI x.most,iI x.o.mss,iI x.o.scale,.bool x.o.sack,.bool x.o.stamp,iI x.o.val,iI x.o.echo,iI x.timer,iI x.tries] (av (.slice Al l.length Cl) 25 (l.map ah)) (by kernel_rfl) rfl (by kernel_rfl) rfl rfl (by kernel_rfl) (by kernel_rfl) (by kernel_rfl) (by kernel_rfl) hlt (by simp) (fun w h => h) (fun b h => h) (by simp only [List.getElem?_map,hx]; rfl) ?_
 refine xl_callC 1 [0,1,5,7,8,11,15] ⟨[(0,.v (.slice Al l.length Cl)),(1,.v (.func (.func 96) #[] #[gP g])),(5,aI (k : Int)),(7,aI ((l.length : Nat) : Int)),(8,aI (k : Int)),(11,.v (.func (.func 96) #[] #[gP g])),(15,.v (.agg (co x (cS xa x xc)).toArray))],[],[[iI x.t.ip,iI x.t.port,iI x.t.my,iI x.state,iI x.s.una,.string x.s.data,iI x.s.sent,.bool x.s.fin,.bool x.s.finSent,.bool x.s.done,iI x.r.next,.string x.r.data,.slice xa x.r.held.length xc,iI x.r.fin,.bool x.r.done,iI x.window,iI x.most,iI x.o.mss,iI x.o.scale,.bool x.o.sack,.bool x.o.stamp,iI x.o.val,iI x.o.echo,iI x.timer,iI x.tries]],[av (.slice Al l.length Cl) 25 (l.map ah),bx l,bZ g 62 [iI u.ip,iI u.port,iI u.my]]⟩ 96 [.agg (co x (cS xa x xc)).toArray,gP g] (some 16) (by kernel_rfl) rfl (by kernel_rfl) rfl (by kernel_rfl) (bw fun ww hf => yFindConn1_c x (cS xa x xc) u g ww (hf (bZ g 62 [iI u.ip,iI u.port,iI u.my]) (by simp))) ?_
 intro _
 refine ac [0,1,5,7,8,16] [] <| kC (aU x.t u) (fun h2 => ?_) (fun h2 => ?_)
 have hfd := findConn_eq (t := ⟨l,[]⟩) hx (by exact h2) HK
 refine kQ <| am [4] [(4,aI (k : Int))] <| kR ?_
 exact ⟨[iI (k : Int)],by kernel_rfl,fun w' hb hf => ⟨cG (by first | exact hfd.symm | exact hfn.symm),hb⟩⟩
 have hq : aU x.t u = false := by exact h2
 refine kK <| kG <| bB 2 [0,1,7,8] [(8,aI (K6.wrap ((k : Int) + 1)))] <| cz [0,1,7,8] [(8,aI (K6.wrap ((k : Int) + 1)))] [(8,aI ((k : Int) + 1))] (by rw [show (K6.wrap ((k : Int) + 1)) = ((k : Int) + 1) from aL (by omega) (by omega)]) (by kernel_rfl) ?_
 refine ac [0,1,7,8] [] ?_
 exact ⟨⟨(k + 1),⟨by omega,dk (p := fun c : CV => aU c.1.t u) hx hq HK⟩⟩,kF 0 0 [0,1,7,8],by show l.length - (k + 1) < l.length - k; omega⟩
 have h1p := of_decide_eq_false h1
 have hge : k = l.length := by simp at h1; omega
 have hfn := findConn_no (t := ⟨l,[]⟩) hge HK
 refine bu <| kQ <| am [4] [(4,aI (-1))] <| kR ?_
 exact ⟨[iI (-1)],by kernel_rfl,fun w' hb hf => ⟨cG (by first | exact hfd.symm | exact hfn.symm),hb⟩⟩
theorem dY (t : Tab) (t_connsV : Value) (t_waitingV : Value) (u : Tup) (w : World) (hl_t_connsV : Sl w t_connsV 25 (t.conns.map ah)) (hh_t_connsV : ∀ x ∈ t.conns, Sl w x.2 2 (x.1.r.held.map pC)) (hl_t_waitingV : Sl w t_waitingV 3 (t.waiting.map a8))  : Calls Try.prog 55 #[.agg (bY t t_connsV t_waitingV).toArray, .agg (bX u).toArray] w fun e w' => e = .returned (iI (ay t u)) ∧ Below w.heap.size w w' := by
 obtain ⟨Atc,Ctc,hvtc⟩ := hl_t_connsV.form
 rw [List.length_map] at hvtc; subst hvtc
 have hntc := hl_t_connsV.len; rw [List.length_map] at hntc
 have hqtc := Sl.capLe hl_t_connsV
 obtain ⟨Atw,Ctw,hvtw⟩ := hl_t_waitingV.form
 rw [List.length_map] at hvtw; subst hvtw
 have hntw := hl_t_waitingV.len; rw [List.length_map] at hntw
 have hqtw := Sl.capLe hl_t_waitingV
 refine aj (args := [.agg (bY t (.slice Atc t.conns.length Ctc) (.slice Atw t.waiting.length Ctw)).toArray,.agg (bX u).toArray]) (fn := Try.f55) [av (.slice Atc t.conns.length Ctc) 25 (t.conns.map ah),bx t.conns,av (.slice Atw t.waiting.length Ctw) 3 (t.waiting.map a8)] Try.func55 rfl Try.ntmps55 rfl (by simp only [List.mem_cons,List.not_mem_nil,or_false,forall_eq_or_imp,forall_eq]; exact ⟨⟨rfl,hl_t_connsV⟩,⟨rfl,hh_t_connsV⟩,⟨rfl,hl_t_waitingV⟩⟩) ?_
 refine kQ <| cY [2,3] ⟨[(2,.p 0 0),(3,.p 1 0)],[⟨49,bY t (.slice Atc t.conns.length Ctc) (.slice Atw t.waiting.length Ctw)⟩,⟨62,bX u⟩],[],[av (.slice Atc t.conns.length Ctc) 25 (t.conns.map ah),bx t.conns,av (.slice Atw t.waiting.length Ctw) 3 (t.waiting.map a8)]⟩ <| kS <| xw_pinB 3 62 [iI u.ip,iI u.port,iI u.my] [⟨49,bY t (.slice Atc t.conns.length Ctc) (.slice Atw t.waiting.length Ctw)⟩] rfl (by kernel_rfl) (by kernel_rfl) ?_
 intro g hg hgn
 refine kG <| kOF 2 [3,6] ⟨[(3,aP g),(6,.v (.slice Atc t.conns.length Ctc))],[⟨49,bY t (.slice Atc t.conns.length Ctc) (.slice Atw t.waiting.length Ctw)⟩],[],[cellF w.heap.size g 62 [iI u.ip,iI u.port,iI u.my],av (.slice Atc t.conns.length Ctc) 25 (t.conns.map ah),bx t.conns,av (.slice Atw t.waiting.length Ctw) 3 (t.waiting.map a8)]⟩ (.func (.func 96) #[] #[gP g]) rfl (fun _ _ _ ww hr => act_mkf [gP g] hr.1 rfl (by kernel_rfl) ww) ?_
 refine ch 0 [6,7] [] 95 [.slice Atc t.conns.length Ctc,.func (.func 96) #[] #[gP g]] (some 8) rfl (bw fun ww hf => yIndexFConn_c t.conns (.slice Atc t.conns.length Ctc) u g ww (hf _ m1) (hf _ m2) (hf (cellF w.heap.size g 62 [iI u.ip,iI u.port,iI u.my]) (by simp)).2) ?_
 intro _
 refine am [4] [(4,aI (ay ⟨t.conns,[]⟩ u))] <| kR ?_
 exact ⟨[iI (ay ⟨t.conns,[]⟩ u)],by kernel_rfl,fun w' hb hf => ⟨cG (show (ay ⟨t.conns,[]⟩ u : Int) = ay t u from by rfl),hb⟩⟩
theorem yl25Waits_c (l : List Tup) (lV : Value) (u : Tup) (w : World) (hl_lV : Sl w lV 3 (l.map a8))  : Calls Try.prog 83 #[lV, .agg (bX u).toArray] w fun e w' => e = .returned (.bool (cF l u)) ∧ Below w.heap.size w w' := by
 obtain ⟨Al,Cl,hvl⟩ := hl_lV.form
 rw [List.length_map] at hvl; subst hvl
 have hnl := hl_lV.len; rw [List.length_map] at hnl
 have hql := Sl.capLe hl_lV
 refine aj (args := [.slice Al l.length Cl,.agg (bX u).toArray]) (fn := Try.f83) [av (.slice Al l.length Cl) 3 (l.map a8)] Try.func83 rfl Try.ntmps83 rfl (by simp only [List.mem_cons,List.not_mem_nil,or_false,forall_eq_or_imp,forall_eq]; exact ⟨rfl,hl_lV⟩) ?_
 refine kQ <| cY [0,3] ⟨[(0,.v (.slice Al l.length Cl)),(3,.p 0 0)],[⟨62,bX u⟩],[],[av (.slice Al l.length Cl) 3 (l.map a8)]⟩ <| kS <| kQ <| ac [0,3,5] [(5,aI 0)] ?_
 refine au <| aA (α := {x : Nat // (fun (k : Nat) => k ≤ l.length ∧ ∀ (i : Nat) (h' : Tup),i < k → l[i]? = some h' → aU h' u = false) x}) (fun x => (fun (k : Nat) => (⟨[(0,.v (.slice Al l.length Cl)),(3,.p 0 0),(5,aI (k : Int))],[⟨62,bX u⟩],[],[av (.slice Al l.length Cl) 3 (l.map a8)]⟩ : St)) x.1) (fun x => l.length - x.1) ⟨(0),⟨Nat.zero_le _,fun i x hi => by omega⟩⟩ (kF 1 0 [0,3,5]) ?_
 rintro ⟨k,hk,HK⟩
 try dsimp only
 try dsimp only at hk HK
 refine kS <| kQ <| ac [0,3,5,9] [(9,aB (decide ((k : Int) < ((l.length : Nat) : Int))))] <| kC (decide ((k : Int) < ((l.length : Nat) : Int))) (fun h1 => ?_) (fun h1 => ?_)
 have h1p := of_decide_eq_true h1
 have hlt : k < l.length := by simpa using h1
 obtain ⟨x,hx⟩ : ∃ x,l[k]? = some x := ⟨_,List.getElem?_eq_getElem hlt⟩
 refine kK <| kS <| au <| kS <| ci ?_
 refine cv (K := 3) (j := k) [iI x.ip,iI x.port,iI x.my] (av (.slice Al l.length Cl) 3 (l.map a8)) (fun _ _ h => h) (by simp) (fun w h => h) (fun b h => h) (by simp only [List.getElem?_map,hx]; rfl) (fun bq2 offq2 hAq2 => ?_)
 refine bQ [] (by kernel_rfl) (fun ρ σ hq3 => ?_)
 refine dm [0,1,4] [16,13,12,0,3,5] 3 [(16,.v (.agg (bX u).toArray)),(13,aI (k : Int)),(12,.v (.slice Al l.length Cl))] <| bU (kd := .i64) (T := 47) (e := 62) (K := 3) (j := k) (A := Al) (len := l.length) (cap := Cl) 2 0 _ rfl (by kernel_rfl) (by kernel_rfl) (by kernel_rfl) (fun _ _ h => h) (by kernel_rfl) rfl rfl (by kernel_rfl) (by kernel_rfl) (by kernel_rfl) (by kernel_rfl) hlt hAq2 hq3.2 (by kernel_rfl) rfl ?_
 refine dm [3] [15,16,0,3,5] 1 [(15,.v (.agg (bX x).toArray))] <| kX 5 (.bool (aU x u)) rfl (fun _ _ ww hA => act_bin hA rfl (by kernel_rfl) (by kernel_rfl) (agg_bin (by kernel_rfl) (dx x.ip x.port x.my u.ip u.port u.my ww))) ?_
 refine kZ <| kC (aU x u) (fun h4 => ?_) (fun h4 => ?_)
 have hfd := (fun a b (_ : ∀ (i : Nat) (h' : Tup),i < k → l[i]? = some h' → aU h' u = false) => isWait_yes (l := l) (k := k) a b) hx (by exact h4) HK
 refine kQ <| am [4] [(4,aB true)] <| kR ?_
 exact ⟨[.bool true],by kernel_rfl,fun w' hb hf => ⟨a7 (show (true : Bool) = cF l u from by first | exact hfd.symm | exact hfn.symm),hb⟩⟩
 have hq : aU x u = false := by exact h4
 refine kK <| kG <| bB 3 [0,3,5] [(5,aI (K6.wrap ((k : Int) + 1)))] <| cz [0,3,5] [(5,aI (K6.wrap ((k : Int) + 1)))] [(5,aI ((k : Int) + 1))] (by rw [show (K6.wrap ((k : Int) + 1)) = ((k : Int) + 1) from aL (by omega) (by omega)]) (by kernel_rfl) ?_
 refine ac [0,3,5] [] ?_
 exact ⟨⟨(k + 1),⟨by omega,dk (p := fun c : Tup => aU c u) hx hq HK⟩⟩,kF 1 0 [0,3,5],by show l.length - (k + 1) < l.length - k; omega⟩
 have h1p := of_decide_eq_false h1
 have hge : k = l.length := by simp at h1; omega
 have hfn := isWait_no hge HK
 refine bu <| kQ <| am [4] [(4,aB false)] <| kR ?_
 exact ⟨[.bool false],by kernel_rfl,fun w' hb hf => ⟨a7 (show (false : Bool) = cF l u from by first | exact hfd.symm | exact hfn.symm),hb⟩⟩
theorem yIndexTuple_c (l : List Tup) (lV : Value) (u : Tup) (w : World) (hl_lV : Sl w lV 3 (l.map a8))  : Calls Try.prog 90 #[lV, .agg (bX u).toArray] w fun e w' => e = .returned (iI (ct l u)) ∧ Below w.heap.size w w' := by
 obtain ⟨Al,Cl,hvl⟩ := hl_lV.form
 rw [List.length_map] at hvl; subst hvl
 have hnl := hl_lV.len; rw [List.length_map] at hnl
 have hql := Sl.capLe hl_lV
 refine aj (args := [.slice Al l.length Cl,.agg (bX u).toArray]) (fn := Try.f90) [av (.slice Al l.length Cl) 3 (l.map a8)] Try.func90 rfl Try.ntmps90 rfl (by simp only [List.mem_cons,List.not_mem_nil,or_false,forall_eq_or_imp,forall_eq]; exact ⟨rfl,hl_lV⟩) ?_
 refine kQ <| cY [0,3] ⟨[(0,.v (.slice Al l.length Cl)),(3,.p 0 0)],[⟨62,bX u⟩],[],[av (.slice Al l.length Cl) 3 (l.map a8)]⟩ <| kS <| kQ <| ac [0,3,7,8] [(7,aI ((l.length : Nat) : Int)),(8,aI 0)] ?_
 refine au <| aA (α := {x : Nat // (fun (k : Nat) => k ≤ l.length ∧ ∀ (i : Nat) (h' : Tup),i < k → l[i]? = some h' → aU h' u = false) x}) (fun x => (fun (k : Nat) => (⟨[(0,.v (.slice Al l.length Cl)),(3,.p 0 0),(7,aI ((l.length : Nat) : Int)),(8,aI (k : Int))],[⟨62,bX u⟩],[],[av (.slice Al l.length Cl) 3 (l.map a8)]⟩ : St)) x.1) (fun x => l.length - x.1) ⟨(0),⟨Nat.zero_le _,fun i x hi => by omega⟩⟩ (kF 1 0 [0,3,7,8]) ?_
 rintro ⟨k,hk,HK⟩
 try dsimp only
 try dsimp only at hk HK
 refine kQ <| ac [0,3,7,8,9] [(9,aB (decide ((k : Int) < ((l.length : Nat) : Int))))] <| kS <| kC (decide ((k : Int) < ((l.length : Nat) : Int))) (fun h1 => ?_) (fun h1 => ?_)
 have h1p := of_decide_eq_true h1
 have hlt : k < l.length := by simpa using h1
 obtain ⟨x,hx⟩ : ∃ x,l[k]? = some x := ⟨_,List.getElem?_eq_getElem hlt⟩
 refine kK <| kS <| au <| kQ <| ac [0,3,5,7,8] [(5,aI (k : Int))] ?_
 refine kS <| ci <| cv (K := 3) (j := k) [iI x.ip,iI x.port,iI x.my] (av (.slice Al l.length Cl) 3 (l.map a8)) (fun _ _ h => h) (by simp) (fun w h => h) (fun b h => h) (by simp only [List.getElem?_map,hx]; rfl) (fun bq2 offq2 hAq2 => ?_)
 refine bQ [] (by kernel_rfl) (fun ρ σ hq3 => ?_)
 refine dm [0,1,2] [13,12,11,0,3,5,7,8] 3 [(13,aI (k : Int)),(12,.v (.slice Al l.length Cl)),(11,.v (.agg (bX u).toArray))] <| bU (kd := .i64) (T := 47) (e := 62) (K := 3) (j := k) (A := Al) (len := l.length) (cap := Cl) 3 0 _ rfl (by kernel_rfl) (by kernel_rfl) (by kernel_rfl) (fun _ _ h => h) (by kernel_rfl) rfl rfl (by kernel_rfl) (by kernel_rfl) (by kernel_rfl) (by kernel_rfl) hlt hAq2 hq3.2 (by kernel_rfl) rfl ?_
 refine dm [4] [15,11,0,3,5,7,8] 1 [(15,.v (.agg (bX x).toArray))] <| kX 5 (.bool (aU u x)) rfl (fun _ _ ww hA => act_bin hA rfl (by kernel_rfl) (by kernel_rfl) (agg_bin (by kernel_rfl) (dx u.ip u.port u.my x.ip x.port x.my ww))) ?_
 refine kZ <| kC (aU u x) (fun h4 => ?_) (fun h4 => ?_)
 have hfd := idxTup_eq hx (by rw [tupEq_comm]; exact h4) HK
 refine kQ <| am [4] [(4,aI (k : Int))] <| kR ?_
 exact ⟨[iI (k : Int)],by kernel_rfl,fun w' hb hf => ⟨cG (show ((k : Int) : Int) = ct l u from by first | exact hfd.symm | exact hfn.symm),hb⟩⟩
 have hq : aU x u = false := by rw [tupEq_comm]; exact h4
 refine kK <| kG <| bB 2 [0,3,7,8] [(8,aI (K6.wrap ((k : Int) + 1)))] <| cz [0,3,7,8] [(8,aI (K6.wrap ((k : Int) + 1)))] [(8,aI ((k : Int) + 1))] (by rw [show (K6.wrap ((k : Int) + 1)) = ((k : Int) + 1) from aL (by omega) (by omega)]) (by kernel_rfl) ?_
 refine ac [0,3,7,8] [] ?_
 exact ⟨⟨(k + 1),⟨by omega,dk (p := fun c : Tup => aU c u) hx hq HK⟩⟩,kF 1 0 [0,3,7,8],by show l.length - (k + 1) < l.length - k; omega⟩
 have h1p := of_decide_eq_false h1
 have hge : k = l.length := by simp at h1; omega
 have hfn := idxTup_no hge HK
 refine bu <| kQ <| am [4] [(4,aI (-1))] <| kR ?_
 exact ⟨[iI (-1)],by kernel_rfl,fun w' hb hf => ⟨cG (show ((-1) : Int) = ct l u from by first | exact hfd.symm | exact hfn.symm),hb⟩⟩
theorem ysLimitsOk_c (l : Lim) (w : World)  : Calls Try.prog 81 #[.agg (bg l).toArray] w fun e w' => e = .returned (.bool (bM l)) ∧ Below w.heap.size w w' := by
 refine aj (args := [.agg (bg l).toArray]) (fn := Try.f81) [] Try.func81 rfl Try.ntmps81 rfl (by simp) ?_
 refine kQ <| cY [1] ⟨[(1,.p 0 0)],[⟨44,bg l⟩],[],[]⟩ <| kS <| bS ⟨[(2,aB ((aX l.halves 1 64) && ((aX l.waiting 1 16) && ((aX l.conns 1 16) && (aX l.chal 0 1000)))))],[⟨44,bg l⟩],[],[]⟩ ?_ ?_
 refine kG <| kCS 2 [1,4] [(1,.p 0 0),(4,aI l.halves)] 46 [iI l.halves,iI 1,iI 64] (some 5) rfl (cw fun ww hf => ca l.halves 1 64 ww ) ?_
 intro _
 refine dn 1 [1,6] [(1,.p 0 0),(6,aB (aX l.halves 1 64))] <| kP 6 (aX l.halves 1 64) (fun h1 => ?_) (fun h1 => ?_)
 have h1i := inB_tt.1 (show aX l.halves 1 64 = true from by simpa using h1)
 refine kCS 2 [1,6,8] [(1,.p 0 0),(6,aB true),(8,aI l.waiting)] 46 [iI l.waiting,iI 1,iI 16] (some 9) rfl (cw fun ww hf => ca l.waiting 1 16 ww ) ?_
 intro _
 refine dn 2 [1,11] [(1,.p 0 0),(11,aB (aX l.waiting 1 16))] <| kP 11 (aX l.waiting 1 16) (fun h2 => ?_) (fun h2 => ?_)
 have h2i := inB_tt.1 (show aX l.waiting 1 16 = true from by simpa using h2)
 refine kCS 2 [1,11,13] [(1,.p 0 0),(11,aB true),(13,aI l.conns)] 46 [iI l.conns,iI 1,iI 16] (some 14) rfl (cw fun ww hf => ca l.conns 1 16 ww ) ?_
 intro _
 refine dn 2 [1,16] [(1,.p 0 0),(16,aB (aX l.conns 1 16))] <| kP 16 (aX l.conns 1 16) (fun h3 => ?_) (fun h3 => ?_)
 have h3i := inB_tt.1 (show aX l.conns 1 16 = true from by simpa using h3)
 refine kCS 2 [16,18] [(16,aB true),(18,aI l.chal)] 46 [iI l.chal,iI 0,iI 1000] (some 19) rfl (cw fun ww hf => ca l.chal 0 1000 ww ) ?_
 intro _
 refine am [2] [(2,aB (aX l.chal 0 1000))] ?_
 show Wk _ _
 try rw [h1]
 try rw [h2]
 try rw [h3]
 exact kF 1 0 [2]
 have h3i := inB_ff.1 (show aX l.conns 1 16 = false from by simpa using h3)
 refine am [2] [(2,aB false)] ?_
 show Wk _ _
 try rw [h1]
 try rw [h2]
 try rw [h3]
 exact kF 1 0 [2]
 have h2i := inB_ff.1 (show aX l.waiting 1 16 = false from by simpa using h2)
 refine am [2] [(2,aB false)] ?_
 show Wk _ _
 try rw [h1]
 try rw [h2]
 exact kF 1 0 [2]
 have h1i := inB_ff.1 (show aX l.halves 1 64 = false from by simpa using h1)
 refine am [2] [(2,aB false)] ?_
 show Wk _ _
 try rw [h1]
 exact kF 1 0 [2]
 refine kR ?_
 exact ⟨[.bool ((aX l.halves 1 64) && ((aX l.waiting 1 16) && ((aX l.conns 1 16) && (aX l.chal 0 1000))))],by kernel_rfl,fun w' hb hf => ⟨a7 (show ((aX l.halves 1 64) && ((aX l.waiting 1 16) && ((aX l.conns 1 16) && (aX l.chal 0 1000))) : Bool) = bM l from by first | rfl | (simp [bM, *]; done) | grind [bM]),hb⟩⟩
theorem yiLimitsOk_c (l : Lim) (w : World)  : Calls Try.prog 88 #[.agg (bg l).toArray] w fun e w' => e = .returned (.bool (bM l)) ∧ Below w.heap.size w w' := by
 refine aj (args := [.agg (bg l).toArray]) (fn := Try.f88) [] Try.func88 rfl Try.ntmps88 rfl (by simp) ?_
 refine kQ <| cY [1] ⟨[(1,.p 0 0)],[⟨44,bg l⟩],[],[]⟩ <| kS <| bS ⟨[(2,aB ((aX l.halves 1 64) && ((aX l.waiting 1 16) && ((aX l.conns 1 16) && (aX l.chal 0 1000)))))],[⟨44,bg l⟩],[],[]⟩ ?_ ?_
 refine kG <| kCS 2 [1,4] [(1,.p 0 0),(4,aI l.halves)] 52 [iI l.halves,iI 1,iI 64] (some 5) rfl (cw fun ww hf => bk l.halves 1 64 ww ) ?_
 intro _
 refine dn 1 [1,6] [(1,.p 0 0),(6,aB (aX l.halves 1 64))] <| kP 6 (aX l.halves 1 64) (fun h1 => ?_) (fun h1 => ?_)
 have h1i := inB_tt.1 (show aX l.halves 1 64 = true from by simpa using h1)
 refine kCS 2 [1,6,8] [(1,.p 0 0),(6,aB true),(8,aI l.waiting)] 52 [iI l.waiting,iI 1,iI 16] (some 9) rfl (cw fun ww hf => bk l.waiting 1 16 ww ) ?_
 intro _
 refine dn 2 [1,11] [(1,.p 0 0),(11,aB (aX l.waiting 1 16))] <| kP 11 (aX l.waiting 1 16) (fun h2 => ?_) (fun h2 => ?_)
 have h2i := inB_tt.1 (show aX l.waiting 1 16 = true from by simpa using h2)
 refine kCS 2 [1,11,13] [(1,.p 0 0),(11,aB true),(13,aI l.conns)] 52 [iI l.conns,iI 1,iI 16] (some 14) rfl (cw fun ww hf => bk l.conns 1 16 ww ) ?_
 intro _
 refine dn 2 [1,16] [(1,.p 0 0),(16,aB (aX l.conns 1 16))] <| kP 16 (aX l.conns 1 16) (fun h3 => ?_) (fun h3 => ?_)
 have h3i := inB_tt.1 (show aX l.conns 1 16 = true from by simpa using h3)
 refine kCS 2 [16,18] [(16,aB true),(18,aI l.chal)] 52 [iI l.chal,iI 0,iI 1000] (some 19) rfl (cw fun ww hf => bk l.chal 0 1000 ww ) ?_
 intro _
 refine am [2] [(2,aB (aX l.chal 0 1000))] ?_
 show Wk _ _
 try rw [h1]
 try rw [h2]
 try rw [h3]
 exact kF 1 0 [2]
 have h3i := inB_ff.1 (show aX l.conns 1 16 = false from by simpa using h3)
 refine am [2] [(2,aB false)] ?_
 show Wk _ _
 try rw [h1]
 try rw [h2]
 try rw [h3]
 exact kF 1 0 [2]
 have h2i := inB_ff.1 (show aX l.waiting 1 16 = false from by simpa using h2)
 refine am [2] [(2,aB false)] ?_
 show Wk _ _
 try rw [h1]
 try rw [h2]
 exact kF 1 0 [2]
 have h1i := inB_ff.1 (show aX l.halves 1 64 = false from by simpa using h1)
 refine am [2] [(2,aB false)] ?_
 show Wk _ _
 try rw [h1]
 exact kF 1 0 [2]
 refine kR ?_
 exact ⟨[.bool ((aX l.halves 1 64) && ((aX l.waiting 1 16) && ((aX l.conns 1 16) && (aX l.chal 0 1000))))],by kernel_rfl,fun w' hb hf => ⟨a7 (show ((aX l.halves 1 64) && ((aX l.waiting 1 16) && ((aX l.conns 1 16) && (aX l.chal 0 1000))) : Bool) = bM l from by first | rfl | (simp [bM, *]; done) | grind [bM]),hb⟩⟩
theorem ysTableOk_c (t : Tab) (t_connsV : Value) (t_waitingV : Value) (l : Lim) (w : World) (hl_t_connsV : Sl w t_connsV 25 (t.conns.map ah)) (hh_t_connsV : ∀ x ∈ t.conns, Sl w x.2 2 (x.1.r.held.map pC)) (hl_t_waitingV : Sl w t_waitingV 3 (t.waiting.map a8)) (hfit : ∀ x ∈ t.conns, cr x.1) : Calls Try.prog 44 #[.agg (bY t t_connsV t_waitingV).toArray, .agg (bg l).toArray] w fun e w' => e = .returned (.bool (aW t l)) ∧ Below w.heap.size w w' := by
 obtain ⟨Atc,Ctc,hvtc⟩ := hl_t_connsV.form
 rw [List.length_map] at hvtc; subst hvtc
 have hntc := hl_t_connsV.len; rw [List.length_map] at hntc
 have hqtc := Sl.capLe hl_t_connsV
 obtain ⟨Atw,Ctw,hvtw⟩ := hl_t_waitingV.form
 rw [List.length_map] at hvtw; subst hvtw
 have hntw := hl_t_waitingV.len; rw [List.length_map] at hntw
 have hqtw := Sl.capLe hl_t_waitingV
 refine aj (args := [.agg (bY t (.slice Atc t.conns.length Ctc) (.slice Atw t.waiting.length Ctw)).toArray,.agg (bg l).toArray]) (fn := Try.f44) [av (.slice Atc t.conns.length Ctc) 25 (t.conns.map ah),bx t.conns,av (.slice Atw t.waiting.length Ctw) 3 (t.waiting.map a8)] Try.func44 rfl Try.ntmps44 rfl (by simp only [List.mem_cons,List.not_mem_nil,or_false,forall_eq_or_imp,forall_eq]; exact ⟨⟨rfl,hl_t_connsV⟩,⟨rfl,hh_t_connsV⟩,⟨rfl,hl_t_waitingV⟩⟩) ?_
 refine kQ <| cY [2,3] ⟨[(2,.p 0 0),(3,.p 1 0)],[⟨49,bY t (.slice Atc t.conns.length Ctc) (.slice Atw t.waiting.length Ctw)⟩,⟨44,bg l⟩],[],[av (.slice Atc t.conns.length Ctc) 25 (t.conns.map ah),bx t.conns,av (.slice Atw t.waiting.length Ctw) 3 (t.waiting.map a8)]⟩ <| kS <| kQ <| ch 1 [2,3,7] [(7,.v (.agg (bg l).toArray))] 81 [.agg (bg l).toArray] (some 8) rfl (bw fun ww hf => ysLimitsOk_c l ww ) ?_
 intro _
 refine bB 2 [2,3,10] [(10,aB (!(bM l)))] <| kP 10 (!(bM l)) (fun h1 => ?_) (fun h1 => ?_)
 have h1n := aa h1
 refine ac [2,25] [(25,aB true)] <| kT <| kQ <| am [4] [(4,aB false)] ?_
 refine kR ?_
 exact ⟨[.bool false],by kernel_rfl,fun w' hb hf => ⟨a7 (show (false : Bool) = aW t l from by first | exact hno.symm | (exact (b0 (by simpa using h1) (by omega) (by omega) hallC hgew HKw).symm) | (exact (b6 (by simpa using h1)).symm) | (exact (b5 (by omega)).symm) | (exact (aH (by omega)).symm)),hb⟩⟩
 have h1n := ak h1
 refine bB 8 [2,3,18] [(18,aB (decide (((t.conns.length : Nat) : Int) > l.conns)))] <| kP 18 (decide (((t.conns.length : Nat) : Int) > l.conns)) (fun h2 => ?_) (fun h2 => ?_)
 have h2p := of_decide_eq_true h2
 refine ac [2,25] [(25,aB true)] <| kT <| kQ <| am [4] [(4,aB false)] ?_
 refine kR ?_
 exact ⟨[.bool false],by kernel_rfl,fun w' hb hf => ⟨a7 (show (false : Bool) = aW t l from by first | exact hno.symm | (exact (b0 (by simpa using h1) (by omega) (by omega) hallC hgew HKw).symm) | (exact (b6 (by simpa using h1)).symm) | (exact (b5 (by omega)).symm) | (exact (aH (by omega)).symm)),hb⟩⟩
 have h2p := of_decide_eq_false h2
 refine ac [2,25] [(25,aB (decide (((t.waiting.length : Nat) : Int) > l.waiting)))] <| kC (decide (((t.waiting.length : Nat) : Int) > l.waiting)) (fun h3 => ?_) (fun h3 => ?_)
 have h3p := of_decide_eq_true h3
 refine kQ <| am [4] [(4,aB false)] <| kR ?_
 exact ⟨[.bool false],by kernel_rfl,fun w' hb hf => ⟨a7 (show (false : Bool) = aW t l from by first | exact hno.symm | (exact (b0 (by simpa using h1) (by omega) (by omega) hallC hgew HKw).symm) | (exact (b6 (by simpa using h1)).symm) | (exact (b5 (by omega)).symm) | (exact (aH (by omega)).symm)),hb⟩⟩
 have h3p := of_decide_eq_false h3
 refine kK <| kS <| kQ <| ac [2,5] [(5,aI 0)] ?_
 refine au <| aA (α := {x : Nat // (fun (k : Nat) => k ≤ t.conns.length ∧ ∀ (i : Nat) (x : CV),i < k → t.conns[i]? = some x → cOne t i x = true) x}) (fun x => (fun (k : Nat) => (⟨[(2,.p 0 0),(5,aI (k : Int))],[⟨49,bY t (.slice Atc t.conns.length Ctc) (.slice Atw t.waiting.length Ctw)⟩,⟨44,bg l⟩],[],[av (.slice Atc t.conns.length Ctc) 25 (t.conns.map ah),bx t.conns,av (.slice Atw t.waiting.length Ctw) 3 (t.waiting.map a8)]⟩ : St)) x.1) (fun x => t.conns.length - x.1) ⟨(0),⟨Nat.zero_le _,fun i x hi => by omega⟩⟩ (kF 2 0 [2,5]) ?_
 rintro ⟨k,hk,HK⟩
 try dsimp only
 try dsimp only at hk HK
 refine kS <| kQ <| ac [2,5,30] [(30,aB (decide ((k : Int) < ((t.conns.length : Nat) : Int))))] <| kC (decide ((k : Int) < ((t.conns.length : Nat) : Int))) (fun h4 => ?_) (fun h4 => ?_)
 have h4p := of_decide_eq_true h4
 have hlt : k < t.conns.length := by simpa using h4
 obtain ⟨x0,hx⟩ : ∃ x,t.conns[k]? = some x := ⟨_,List.getElem?_eq_getElem hlt⟩
 obtain ⟨x,xa,xc,rfl⟩ := db (hh_t_connsV x0 (List.mem_of_getElem? hx))
 have hft_x : cr x := hfit _ (List.mem_of_getElem? hx)
 obtain ⟨hfs_x,hfr_x,hfh_x,hfp_x⟩ := hft_x
 refine kK <| kS <| au <| kS <| ci ?_
 refine cv (K := 25) (j := k) [iI x.t.ip,iI x.t.port,iI x.t.my,iI x.state,iI x.s.una,.string x.s.data,iI x.s.sent,.bool x.s.fin,.bool x.s.finSent,.bool x.s.done,iI x.r.next,.string x.r.data,.slice xa x.r.held.length xc,iI x.r.fin,.bool x.r.done,iI x.window,iI x.most,iI x.o.mss,iI x.o.scale,.bool x.o.sack,.bool x.o.stamp,iI x.o.val,iI x.o.echo,iI x.timer,iI x.tries] (av (.slice Atc t.conns.length Ctc) 25 (t.conns.map ah)) (fun _ _ h => h) (by simp) (fun w h => h) (fun b h => h) (by simp only [List.getElem?_map,hx]; rfl) (fun bq5 offq5 hAq5 => ?_)
 refine cv (K := 25) (j := k) [iI x.t.ip,iI x.t.port,iI x.t.my,iI x.state,iI x.s.una,.string x.s.data,iI x.s.sent,.bool x.s.fin,.bool x.s.finSent,.bool x.s.done,iI x.r.next,.string x.r.data,.slice xa x.r.held.length xc,iI x.r.fin,.bool x.r.done,iI x.window,iI x.most,iI x.o.mss,iI x.o.scale,.bool x.o.sack,.bool x.o.stamp,iI x.o.val,iI x.o.echo,iI x.timer,iI x.tries] (av (.slice Atc t.conns.length Ctc) 25 (t.conns.map ah)) (fun _ _ h => h) (by simp) (fun w h => h) (fun b h => h) (by simp only [List.getElem?_map,hx]; rfl) (fun bq6 offq6 hAq6 => ?_)
 refine bQ [] (by kernel_rfl) (fun ρ σ hq7 => ?_)
 refine dm [0,1,2] [35,34,2,5] 16 [(35,aI (k : Int)),(34,.v (.slice Atc t.conns.length Ctc))] <| bU (kd := .i64) (T := 46) (e := 108) (K := 25) (j := k) (A := Atc) (len := t.conns.length) (cap := Ctc) 3 0 _ rfl (by kernel_rfl) (by kernel_rfl) (by kernel_rfl) (fun _ _ h => h) (by kernel_rfl) rfl rfl (by kernel_rfl) (by kernel_rfl) (by kernel_rfl) (by kernel_rfl) hlt hAq5 hq7.1.2 (by kernel_rfl) rfl ?_
 refine dm [4] [37,2,5] 14 [(37,.v (.agg (co x (cS xa x xc)).toArray))] <| kA [5] <| kSC 5 82 [.agg (co x (cS xa x xc)).toArray] (some 38) rfl (bw fun ww hf => ysConnOk_c x (cS xa x xc) ww ((hf _ m1) (x,.slice xa x.r.held.length xc) (List.mem_of_getElem? hx)) (by assumption) (by omega)) ?_
 intro _
 refine dm [6,7] [40,2,5] 11 [(40,aB (!(aY x)))] <| kY 40 (!(aY x)) (fun h8 => ?_) (fun h8 => ?_)
 have hno := tableOk_c (l := l) hx (cOne_no1 (by simpa using h8))
 refine dm [8,9,10,11,16] [49,44,43,41,40,2,5] 6 [(49,.v undef),(44,.v undef),(43,.v undef),(41,.v undef),(40,aB true)] <| xe_skip 12 ⟨[(45,.v undef),(49,.v undef),(44,.v undef),(43,.v undef),(41,.v undef),(40,aB true),(2,.p 0 0),(5,aI (k : Int))],[⟨49,bY t (.slice Atc t.conns.length Ctc) (.slice Atw t.waiting.length Ctw)⟩,⟨44,bg l⟩],[[iI x.t.ip,iI x.t.port,iI x.t.my,iI x.state,iI x.s.una,.string x.s.data,iI x.s.sent,.bool x.s.fin,.bool x.s.finSent,.bool x.s.done,iI x.r.next,.string x.r.data,.slice xa x.r.held.length xc,iI x.r.fin,.bool x.r.done,iI x.window,iI x.most,iI x.o.mss,iI x.o.scale,.bool x.o.sack,.bool x.o.stamp,iI x.o.val,iI x.o.echo,iI x.timer,iI x.tries],[iI x.t.ip,iI x.t.port,iI x.t.my,iI x.state,iI x.s.una,.string x.s.data,iI x.s.sent,.bool x.s.fin,.bool x.s.finSent,.bool x.s.done,iI x.r.next,.string x.r.data,.slice xa x.r.held.length xc,iI x.r.fin,.bool x.r.done,iI x.window,iI x.most,iI x.o.mss,iI x.o.scale,.bool x.o.sack,.bool x.o.stamp,iI x.o.val,iI x.o.echo,iI x.timer,iI x.tries]],[av (.slice Atc t.conns.length Ctc) 25 (t.conns.map ah),bx t.conns,av (.slice Atw t.waiting.length Ctw) 3 (t.waiting.map a8)]⟩ rfl (by kernel_rfl) (by kernel_rfl) (by kernel_rfl) (fun _ _ h => h) (by kernel_rfl) rfl (by kernel_rfl) ?_
 refine kTS [13,14,15,17,18] [51,2,5] 0 [(51,aB true),(2,.p 0 0),(5,aI (k : Int))] <| kZ <| kT <| kQ <| am [4] [(4,aB false)] ?_
 refine kR ?_
 exact ⟨[.bool false],by kernel_rfl,fun w' hb hf => ⟨a7 (show (false : Bool) = aW t l from by first | exact hno.symm | (exact (b0 (by simpa using h1) (by omega) (by omega) hallC hgew HKw).symm) | (exact (b6 (by simpa using h1)).symm) | (exact (b5 (by omega)).symm) | (exact (aH (by omega)).symm)),hb⟩⟩
 have hy1 : aY x = true := by simpa using h8
 refine dm [8,9,10,11,16] [49,44,43,41,40,2,5] 6 [(49,aI (k : Int)),(44,aI (k : Int)),(43,.v (.slice Atc t.conns.length Ctc)),(41,.v (.agg (bY t (.slice Atc t.conns.length Ctc) (.slice Atw t.waiting.length Ctw)).toArray)),(40,aB false)] <| bU (kd := .i64) (T := 46) (e := 108) (K := 25) (j := k) (A := Atc) (len := t.conns.length) (cap := Ctc) 12 1 _ rfl (by kernel_rfl) (by kernel_rfl) (by kernel_rfl) (fun _ _ h => h) (by kernel_rfl) rfl rfl (by kernel_rfl) (by kernel_rfl) (by kernel_rfl) (by kernel_rfl) hlt hAq6 hq7.2 (by kernel_rfl) rfl ?_
 refine kTS [13,14] [47,49,41,40,2,5] 3 [(47,.v (.agg (bX x.t).toArray)),(49,aI (k : Int)),(41,.v (.agg (bY t (.slice Atc t.conns.length Ctc) (.slice Atw t.waiting.length Ctw)).toArray)),(40,aB false),(2,.p 0 0),(5,aI (k : Int))] <| kA [15] <| kSC 15 47 [.agg (bY t (.slice Atc t.conns.length Ctc) (.slice Atw t.waiting.length Ctw)).toArray,.agg (bX x.t).toArray] (some 48) rfl (bw fun ww hf => dZ t (.slice Atc t.conns.length Ctc) (.slice Atw t.waiting.length Ctw) x.t ww (hf _ m0) (hf _ m1) (hf _ m2) ) ?_
 intro _
 refine dm [17,18] [51,2,5] 0 [(51,aB ((ay t x.t) != (k : Int)))] <| kZ <| kC ((ay t x.t) != (k : Int)) (fun h9 => ?_) (fun h9 => ?_)
 have h9p := neT h9
 have hno := tableOk_c (l := l) hx (cOne_no2 (by simpa using h9))
 refine kQ <| am [4] [(4,aB false)] <| kR ?_
 exact ⟨[.bool false],by kernel_rfl,fun w' hb hf => ⟨a7 (show (false : Bool) = aW t l from by first | exact hno.symm | (exact (b0 (by simpa using h1) (by omega) (by omega) hallC hgew HKw).symm) | (exact (b6 (by simpa using h1)).symm) | (exact (b5 (by omega)).symm) | (exact (aH (by omega)).symm)),hb⟩⟩
 have h9p := neF h9
 have hy2 : ay t x.t = (k : Int) := by simpa using h9
 refine kK <| kG <| bB 3 [2,5] [(5,aI (K6.wrap ((k : Int) + 1)))] <| cz [2,5] [(5,aI (K6.wrap ((k : Int) + 1)))] [(5,aI ((k : Int) + 1))] (by rw [show (K6.wrap ((k : Int) + 1)) = ((k : Int) + 1) from aL (by omega) (by omega)]) (by kernel_rfl) ?_
 refine ac [2,5] [] ?_
 exact ⟨⟨(k + 1),⟨by omega,df (p := cOne t) hx (cOne_yes hy1 hy2) HK⟩⟩,kF 2 0 [2,5],by show t.conns.length - (k + 1) < t.conns.length - k; omega⟩
 have h4p := of_decide_eq_false h4
 have hge : k = t.conns.length := by simp at h4; omega
 have hallC := allI_all hge HK
 refine bu <| kS <| kQ <| ac [2,6] [(6,aI 0)] ?_
 refine au <| aA (α := {x : Nat // (fun (kw : Nat) => kw ≤ t.waiting.length ∧ ∀ (i : Nat) (x : Tup),i < kw → t.waiting[i]? = some x → wOne t i x = true) x}) (fun x => (fun (kw : Nat) => (⟨[(2,.p 0 0),(6,aI (kw : Int))],[⟨49,bY t (.slice Atc t.conns.length Ctc) (.slice Atw t.waiting.length Ctw)⟩,⟨44,bg l⟩],[],[av (.slice Atc t.conns.length Ctc) 25 (t.conns.map ah),bx t.conns,av (.slice Atw t.waiting.length Ctw) 3 (t.waiting.map a8)]⟩ : St)) x.1) (fun x => t.waiting.length - x.1) ⟨(0),⟨Nat.zero_le _,fun i x hi => by omega⟩⟩ (kF 2 0 [2,6]) ?_
 rintro ⟨kw,hkw,HKw⟩
 try dsimp only
 try dsimp only at hkw HKw
 refine kS <| kQ <| ac [2,6,56] [(56,aB (decide ((kw : Int) < ((t.waiting.length : Nat) : Int))))] <| kC (decide ((kw : Int) < ((t.waiting.length : Nat) : Int))) (fun h10 => ?_) (fun h10 => ?_)
 have h10p := of_decide_eq_true h10
 have hltw : kw < t.waiting.length := by simpa using h10
 obtain ⟨xw,hxw⟩ : ∃ x,t.waiting[kw]? = some x := ⟨_,List.getElem?_eq_getElem hltw⟩
 have hwp := wait_pre hxw
 refine kK <| kS <| au <| kS <| ci ?_
 refine cv (K := 3) (j := kw) [iI xw.ip,iI xw.port,iI xw.my] (av (.slice Atw t.waiting.length Ctw) 3 (t.waiting.map a8)) (fun _ _ h => h) (by simp) (fun w h => h) (fun b h => h) (by simp only [List.getElem?_map,hxw]; rfl) (fun bq11 offq11 hAq11 => ?_)
 refine cv (K := 3) (j := kw) [iI xw.ip,iI xw.port,iI xw.my] (av (.slice Atw t.waiting.length Ctw) 3 (t.waiting.map a8)) (fun _ _ h => h) (by simp) (fun w h => h) (fun b h => h) (by simp only [List.getElem?_map,hxw]; rfl) (fun bq12 offq12 hAq12 => ?_)
 refine bQ [] (by kernel_rfl) (fun ρ σ hq13 => ?_)
 refine dm [0,1,2,4,5,6] [65,64,61,60,2,6] 14 [(65,aI (kw : Int)),(64,.v (.slice Atw t.waiting.length Ctw)),(61,aI (kw : Int)),(60,.v (.slice Atw t.waiting.length Ctw))] <| kX 3 (.slice (if Ctw = 0 then Atw else Atw.map (·.add (0 * 3))) (kw - 0) (Ctw - 0)) rfl (fun _ _ ww hA => act_slV0 (e := 62) kw hA rfl (by kernel_rfl) (by kernel_rfl) rfl rfl rfl (by omega) ww) ?_
 refine bU (kd := .i64) (T := 47) (e := 62) (K := 3) (j := kw) (A := Atw) (len := t.waiting.length) (cap := Ctw) 7 0 _ rfl (by kernel_rfl) (by kernel_rfl) (by kernel_rfl) (fun _ _ h => h) (by kernel_rfl) rfl rfl (by kernel_rfl) (by kernel_rfl) (by kernel_rfl) (by kernel_rfl) hltw hAq11 hq13.1.2 (by kernel_rfl) rfl ?_
 refine dm [8] [67,62,2,6] 11 [(67,.v (.agg (bX xw).toArray)),(62,.v (.slice (if Ctw = 0 then Atw else Atw.map (·.add (0 * 3))) (kw - 0) (Ctw - 0)))] <| kA [9] <| kSC 9 83 [.slice (if Ctw = 0 then Atw else Atw.map (·.add (0 * 3))) (kw - 0) (Ctw - 0),.agg (bX xw).toArray] (some 68) rfl (bw fun ww hf => yl25Waits_c ((t.waiting.drop 0).take (kw - 0)) (.slice (if Ctw = 0 then Atw else Atw.map (·.add (0 * 3))) (kw - 0) (Ctw - 0)) xw ww (Sl.partM (hf _ m2) 0 kw (by omega) (by omega)) ) ?_
 intro _
 refine kTS [10] [69,2,6] 9 [(69,aB (cF ((t.waiting.drop 0).take (kw - 0)) xw)),(2,.p 0 0),(6,aI (kw : Int))] <| kY 69 (cF ((t.waiting.drop 0).take (kw - 0)) xw) (fun h14 => ?_) (fun h14 => ?_)
 have hno := tableOk_w (l := l) hxw (wOne_no2 (by have e := hwp; rw [h14] at e; simpa using e))
 refine dm [11,12,13,14] [73,72,70,69,2,6] 5 [(73,.v undef),(72,.v undef),(70,.v undef),(69,aB true)] <| xe_skip 15 ⟨[(74,.v undef),(73,.v undef),(72,.v undef),(70,.v undef),(69,aB true),(2,.p 0 0),(6,aI (kw : Int))],[⟨49,bY t (.slice Atc t.conns.length Ctc) (.slice Atw t.waiting.length Ctw)⟩,⟨44,bg l⟩],[[iI xw.ip,iI xw.port,iI xw.my],[iI xw.ip,iI xw.port,iI xw.my]],[av (.slice Atc t.conns.length Ctc) 25 (t.conns.map ah),bx t.conns,av (.slice Atw t.waiting.length Ctw) 3 (t.waiting.map a8)]⟩ rfl (by kernel_rfl) (by kernel_rfl) (by kernel_rfl) (fun _ _ h => h) (by kernel_rfl) rfl (by kernel_rfl) ?_
 refine dm [16,17,18,19] [78,2,6] 0 [(78,aB true)] <| kZ <| kT <| kQ <| am [4] [(4,aB false)] ?_
 refine kR ?_
 exact ⟨[.bool false],by kernel_rfl,fun w' hb hf => ⟨a7 (show (false : Bool) = aW t l from by first | exact hno.symm | (exact (b0 (by simpa using h1) (by omega) (by omega) hallC hgew HKw).symm) | (exact (b6 (by simpa using h1)).symm) | (exact (b5 (by omega)).symm) | (exact (aH (by omega)).symm)),hb⟩⟩
 have hy2 : ct t.waiting xw = (kw : Int) := by have e := hwp; rw [h14] at e; simpa using e
 refine dm [11,12,13,14] [73,72,70,69,2,6] 5 [(73,aI (kw : Int)),(72,.v (.slice Atw t.waiting.length Ctw)),(70,.v (.agg (bY t (.slice Atc t.conns.length Ctc) (.slice Atw t.waiting.length Ctw)).toArray)),(69,aB false)] <| bU (kd := .i64) (T := 47) (e := 62) (K := 3) (j := kw) (A := Atw) (len := t.waiting.length) (cap := Ctw) 15 1 _ rfl (by kernel_rfl) (by kernel_rfl) (by kernel_rfl) (fun _ _ h => h) (by kernel_rfl) rfl rfl (by kernel_rfl) (by kernel_rfl) (by kernel_rfl) (by kernel_rfl) hltw hAq12 hq13.2 (by kernel_rfl) rfl ?_
 refine dm [16] [75,70,69,2,6] 3 [(75,.v (.agg (bX xw).toArray))] <| kA [17] <| kSC 17 47 [.agg (bY t (.slice Atc t.conns.length Ctc) (.slice Atw t.waiting.length Ctw)).toArray,.agg (bX xw).toArray] (some 76) rfl (bw fun ww hf => dZ t (.slice Atc t.conns.length Ctc) (.slice Atw t.waiting.length Ctw) xw ww (hf _ m0) (hf _ m1) (hf _ m2) ) ?_
 intro _
 refine dm [18,19] [78,2,6] 0 [(78,aB (decide ((ay t xw) < 0)))] <| kZ <| kC (decide ((ay t xw) < 0)) (fun h15 => ?_) (fun h15 => ?_)
 have h15p := of_decide_eq_true h15
 have hno := tableOk_w (l := l) hxw (wOne_no1 (by simpa using h15))
 refine kQ <| am [4] [(4,aB false)] <| kR ?_
 exact ⟨[.bool false],by kernel_rfl,fun w' hb hf => ⟨a7 (show (false : Bool) = aW t l from by first | exact hno.symm | (exact (b0 (by simpa using h1) (by omega) (by omega) hallC hgew HKw).symm) | (exact (b6 (by simpa using h1)).symm) | (exact (b5 (by omega)).symm) | (exact (aH (by omega)).symm)),hb⟩⟩
 have h15p := of_decide_eq_false h15
 have hy1 : ¬ ay t xw < 0 := by simpa using h15
 refine kK <| kG <| bB 3 [2,6] [(6,aI (K6.wrap ((kw : Int) + 1)))] <| cz [2,6] [(6,aI (K6.wrap ((kw : Int) + 1)))] [(6,aI ((kw : Int) + 1))] (by rw [show (K6.wrap ((kw : Int) + 1)) = ((kw : Int) + 1) from aL (by omega) (by omega)]) (by kernel_rfl) ?_
 refine ac [2,6] [] ?_
 exact ⟨⟨(kw + 1),⟨by omega,df (p := wOne t) hxw (wOne_yes hy1 hy2) HKw⟩⟩,kF 2 0 [2,6],by show t.waiting.length - (kw + 1) < t.waiting.length - kw; omega⟩
 have h10p := of_decide_eq_false h10
 have hgew : kw = t.waiting.length := by simp at h10; omega
 refine bu <| kQ <| am [4] [(4,aB true)] <| kR ?_
 exact ⟨[.bool true],by kernel_rfl,fun w' hb hf => ⟨a7 (show (true : Bool) = aW t l from by first | exact hno.symm | (exact (b0 (by simpa using h1) (by omega) (by omega) hallC hgew HKw).symm) | (exact (b6 (by simpa using h1)).symm) | (exact (b5 (by omega)).symm) | (exact (aH (by omega)).symm)),hb⟩⟩
theorem yiTableOk_c (t : Tab) (t_connsV : Value) (t_waitingV : Value) (l : Lim) (w : World) (hl_t_connsV : Sl w t_connsV 25 (t.conns.map ah)) (hh_t_connsV : ∀ x ∈ t.conns, Sl w x.2 2 (x.1.r.held.map pC)) (hl_t_waitingV : Sl w t_waitingV 3 (t.waiting.map a8)) (hfit : ∀ x ∈ t.conns, cr x.1) : Calls Try.prog 50 #[.agg (bY t t_connsV t_waitingV).toArray, .agg (bg l).toArray] w fun e w' => e = .returned (.bool (aW t l)) ∧ Below w.heap.size w w' := by
 obtain ⟨Atc,Ctc,hvtc⟩ := hl_t_connsV.form
 rw [List.length_map] at hvtc; subst hvtc
 have hntc := hl_t_connsV.len; rw [List.length_map] at hntc
 have hqtc := Sl.capLe hl_t_connsV
 obtain ⟨Atw,Ctw,hvtw⟩ := hl_t_waitingV.form
 rw [List.length_map] at hvtw; subst hvtw
 have hntw := hl_t_waitingV.len; rw [List.length_map] at hntw
 have hqtw := Sl.capLe hl_t_waitingV
 refine aj (args := [.agg (bY t (.slice Atc t.conns.length Ctc) (.slice Atw t.waiting.length Ctw)).toArray,.agg (bg l).toArray]) (fn := Try.f50) [av (.slice Atc t.conns.length Ctc) 25 (t.conns.map ah),bx t.conns,av (.slice Atw t.waiting.length Ctw) 3 (t.waiting.map a8)] Try.func50 rfl Try.ntmps50 rfl (by simp only [List.mem_cons,List.not_mem_nil,or_false,forall_eq_or_imp,forall_eq]; exact ⟨⟨rfl,hl_t_connsV⟩,⟨rfl,hh_t_connsV⟩,⟨rfl,hl_t_waitingV⟩⟩) ?_
 refine kQ <| cY [2,3] ⟨[(2,.p 0 0),(3,.p 1 0)],[⟨49,bY t (.slice Atc t.conns.length Ctc) (.slice Atw t.waiting.length Ctw)⟩,⟨44,bg l⟩],[],[av (.slice Atc t.conns.length Ctc) 25 (t.conns.map ah),bx t.conns,av (.slice Atw t.waiting.length Ctw) 3 (t.waiting.map a8)]⟩ <| kS <| kQ <| ch 1 [2,3,9] [(9,.v (.agg (bg l).toArray))] 88 [.agg (bg l).toArray] (some 10) rfl (bw fun ww hf => yiLimitsOk_c l ww ) ?_
 intro _
 refine bB 2 [2,3,12] [(12,aB (!(bM l)))] <| kP 12 (!(bM l)) (fun h1 => ?_) (fun h1 => ?_)
 have h1n := aa h1
 refine ac [2,27] [(27,aB true)] <| kT <| kQ <| am [4] [(4,aB false)] ?_
 refine kR ?_
 exact ⟨[.bool false],by kernel_rfl,fun w' hb hf => ⟨a7 (show (false : Bool) = aW t l from by first | exact hno.symm | (exact (b0 (by simpa using h1) (by omega) (by omega) hallC hgew HKw).symm) | (exact (b6 (by simpa using h1)).symm) | (exact (b5 (by omega)).symm) | (exact (aH (by omega)).symm)),hb⟩⟩
 have h1n := ak h1
 refine bB 8 [2,3,20] [(20,aB (decide (((t.conns.length : Nat) : Int) > l.conns)))] <| kP 20 (decide (((t.conns.length : Nat) : Int) > l.conns)) (fun h2 => ?_) (fun h2 => ?_)
 have h2p := of_decide_eq_true h2
 refine ac [2,27] [(27,aB true)] <| kT <| kQ <| am [4] [(4,aB false)] ?_
 refine kR ?_
 exact ⟨[.bool false],by kernel_rfl,fun w' hb hf => ⟨a7 (show (false : Bool) = aW t l from by first | exact hno.symm | (exact (b0 (by simpa using h1) (by omega) (by omega) hallC hgew HKw).symm) | (exact (b6 (by simpa using h1)).symm) | (exact (b5 (by omega)).symm) | (exact (aH (by omega)).symm)),hb⟩⟩
 have h2p := of_decide_eq_false h2
 refine ac [2,27] [(27,aB (decide (((t.waiting.length : Nat) : Int) > l.waiting)))] <| kC (decide (((t.waiting.length : Nat) : Int) > l.waiting)) (fun h3 => ?_) (fun h3 => ?_)
 have h3p := of_decide_eq_true h3
 refine kQ <| am [4] [(4,aB false)] <| kR ?_
 exact ⟨[.bool false],by kernel_rfl,fun w' hb hf => ⟨a7 (show (false : Bool) = aW t l from by first | exact hno.symm | (exact (b0 (by simpa using h1) (by omega) (by omega) hallC hgew HKw).symm) | (exact (b6 (by simpa using h1)).symm) | (exact (b5 (by omega)).symm) | (exact (aH (by omega)).symm)),hb⟩⟩
 have h3p := of_decide_eq_false h3
 refine kK <| kS <| kQ <| ac [2,29,30,31] [(29,.v (.slice Atc t.conns.length Ctc)),(30,aI ((t.conns.length : Nat) : Int)),(31,aI 0)] ?_
 refine au <| aA (α := {x : Nat // (fun (k : Nat) => k ≤ t.conns.length ∧ ∀ (i : Nat) (x : CV),i < k → t.conns[i]? = some x → cOne t i x = true) x}) (fun x => (fun (k : Nat) => (⟨[(2,.p 0 0),(29,.v (.slice Atc t.conns.length Ctc)),(30,aI ((t.conns.length : Nat) : Int)),(31,aI (k : Int))],[⟨49,bY t (.slice Atc t.conns.length Ctc) (.slice Atw t.waiting.length Ctw)⟩,⟨44,bg l⟩],[],[av (.slice Atc t.conns.length Ctc) 25 (t.conns.map ah),bx t.conns,av (.slice Atw t.waiting.length Ctw) 3 (t.waiting.map a8)]⟩ : St)) x.1) (fun x => t.conns.length - x.1) ⟨(0),⟨Nat.zero_le _,fun i x hi => by omega⟩⟩ (kF 2 0 [2,29,30,31]) ?_
 rintro ⟨k,hk,HK⟩
 try dsimp only
 try dsimp only at hk HK
 refine kQ <| ac [2,29,30,31,32] [(32,aB (decide ((k : Int) < ((t.conns.length : Nat) : Int))))] <| kS <| kC (decide ((k : Int) < ((t.conns.length : Nat) : Int))) (fun h4 => ?_) (fun h4 => ?_)
 have h4p := of_decide_eq_true h4
 have hlt : k < t.conns.length := by simpa using h4
 obtain ⟨x0,hx⟩ : ∃ x,t.conns[k]? = some x := ⟨_,List.getElem?_eq_getElem hlt⟩
 obtain ⟨x,xa,xc,rfl⟩ := db (hh_t_connsV x0 (List.mem_of_getElem? hx))
 have hft_x : cr x := hfit _ (List.mem_of_getElem? hx)
 obtain ⟨hfs_x,hfr_x,hfh_x,hfp_x⟩ := hft_x
 refine kK <| kS <| au <| kQ <| ba (kd := .i64) (T := 46) (e := 108) (K := 25) 1 [2,29,30,31,33] [(33,aI (k : Int))] k [iI x.t.ip,iI x.t.port,iI x.t.my,iI x.state,iI x.s.una,.string x.s.data,iI x.s.sent,.bool x.s.fin,.bool x.s.finSent,.bool x.s.done,iI x.r.next,.string x.r.data,.slice xa x.r.held.length xc,iI x.r.fin,.bool x.r.done,iI x.window,iI x.most,iI x.o.mss,iI x.o.scale,.bool x.o.sack,.bool x.o.stamp,iI x.o.val,iI x.o.echo,iI x.timer,iI x.tries] (av (.slice Atc t.conns.length Ctc) 25 (t.conns.map ah)) (by kernel_rfl) rfl (by kernel_rfl) rfl rfl (by kernel_rfl) (by kernel_rfl) (by kernel_rfl) (by kernel_rfl) hlt (by simp) (fun w h => h) (fun b h => h) (by simp only [List.getElem?_map,hx]; rfl) ?_
 refine kEA [2,5,6,29,30,31] [(5,aI (k : Int)),(6,.p 2 0)] [⟨108,co x (cS xa x xc)⟩] <| kQ <| ch 1 [2,5,6,29,30,31,36] [(36,.v (.agg (co x (cS xa x xc)).toArray))] 89 [.agg (co x (cS xa x xc)).toArray] (some 37) rfl (bw fun ww hf => yiConnOk_c x (cS xa x xc) ww ((hf _ m1) (x,.slice xa x.r.held.length xc) (List.mem_of_getElem? hx)) (by assumption) (by omega)) ?_
 intro _
 refine bB 2 [2,5,6,29,30,31,39] [(39,aB (!(aY x)))] <| kP 39 (!(aY x)) (fun h5 => ?_) (fun h5 => ?_)
 have hno := tableOk_c (l := l) hx (cOne_no1 (by simpa using h5))
 refine am [2,29,30,31,46] [(2,.p 0 0),(29,.v (.slice Atc t.conns.length Ctc)),(30,aI ((t.conns.length : Nat) : Int)),(31,aI (k : Int)),(46,aB true)] <| kT <| kQ <| am [4] [(4,aB false)] ?_
 refine kR ?_
 exact ⟨[.bool false],by kernel_rfl,fun w' hb hf => ⟨a7 (show (false : Bool) = aW t l from by first | exact hno.symm | (exact (b0 (by simpa using h1) (by omega) (by omega) hallC hgew HKw).symm) | (exact (b6 (by simpa using h1)).symm) | (exact (b5 (by omega)).symm) | (exact (aH (by omega)).symm)),hb⟩⟩
 have hy1 : aY x = true := by simpa using h5
 refine kCS 3 [2,5,29,30,31,39,40,42] [(2,.p 0 0),(5,aI (k : Int)),(29,.v (.slice Atc t.conns.length Ctc)),(30,aI ((t.conns.length : Nat) : Int)),(31,aI (k : Int)),(39,aB false),(40,.v (.agg (bY t (.slice Atc t.conns.length Ctc) (.slice Atw t.waiting.length Ctw)).toArray)),(42,.v (.agg (bX x.t).toArray))] 55 [.agg (bY t (.slice Atc t.conns.length Ctc) (.slice Atw t.waiting.length Ctw)).toArray,.agg (bX x.t).toArray] (some 43) rfl (bw fun ww hf => dY t (.slice Atc t.conns.length Ctc) (.slice Atw t.waiting.length Ctw) x.t ww (hf _ m0) (hf _ m1) (hf _ m2) ) ?_
 intro _
 refine ac [2,29,30,31,46] [(46,aB ((ay t x.t) != (k : Int)))] <| kC ((ay t x.t) != (k : Int)) (fun h6 => ?_) (fun h6 => ?_)
 have h6p := neT h6
 have hno := tableOk_c (l := l) hx (cOne_no2 (by simpa using h6))
 refine kQ <| am [4] [(4,aB false)] <| kR ?_
 exact ⟨[.bool false],by kernel_rfl,fun w' hb hf => ⟨a7 (show (false : Bool) = aW t l from by first | exact hno.symm | (exact (b0 (by simpa using h1) (by omega) (by omega) hallC hgew HKw).symm) | (exact (b6 (by simpa using h1)).symm) | (exact (b5 (by omega)).symm) | (exact (aH (by omega)).symm)),hb⟩⟩
 have h6p := neF h6
 have hy2 : ay t x.t = (k : Int) := by simpa using h6
 refine kK <| kG <| bB 2 [2,29,30,31] [(31,aI (K6.wrap ((k : Int) + 1)))] <| cz [2,29,30,31] [(31,aI (K6.wrap ((k : Int) + 1)))] [(31,aI ((k : Int) + 1))] (by rw [show (K6.wrap ((k : Int) + 1)) = ((k : Int) + 1) from aL (by omega) (by omega)]) (by kernel_rfl) ?_
 refine ac [2,29,30,31] [] ?_
 exact ⟨⟨(k + 1),⟨by omega,df (p := cOne t) hx (cOne_yes hy1 hy2) HK⟩⟩,kF 2 0 [2,29,30,31],by show t.conns.length - (k + 1) < t.conns.length - k; omega⟩
 have h4p := of_decide_eq_false h4
 have hge : k = t.conns.length := by simp at h4; omega
 have hallC := allI_all hge HK
 refine bu <| kS <| kQ <| ac [2,49,50,51] [(49,.v (.slice Atw t.waiting.length Ctw)),(50,aI ((t.waiting.length : Nat) : Int)),(51,aI 0)] ?_
 refine au <| aA (α := {x : Nat // (fun (kw : Nat) => kw ≤ t.waiting.length ∧ ∀ (i : Nat) (x : Tup),i < kw → t.waiting[i]? = some x → wOne t i x = true) x}) (fun x => (fun (kw : Nat) => (⟨[(2,.p 0 0),(49,.v (.slice Atw t.waiting.length Ctw)),(50,aI ((t.waiting.length : Nat) : Int)),(51,aI (kw : Int))],[⟨49,bY t (.slice Atc t.conns.length Ctc) (.slice Atw t.waiting.length Ctw)⟩,⟨44,bg l⟩],[],[av (.slice Atc t.conns.length Ctc) 25 (t.conns.map ah),bx t.conns,av (.slice Atw t.waiting.length Ctw) 3 (t.waiting.map a8)]⟩ : St)) x.1) (fun x => t.waiting.length - x.1) ⟨(0),⟨Nat.zero_le _,fun i x hi => by omega⟩⟩ (kF 2 0 [2,49,50,51]) ?_
 rintro ⟨kw,hkw,HKw⟩
 try dsimp only
 try dsimp only at hkw HKw
 refine kQ <| ac [2,49,50,51,52] [(52,aB (decide ((kw : Int) < ((t.waiting.length : Nat) : Int))))] <| kS <| kC (decide ((kw : Int) < ((t.waiting.length : Nat) : Int))) (fun h7 => ?_) (fun h7 => ?_)
 have h7p := of_decide_eq_true h7
 have hltw : kw < t.waiting.length := by simpa using h7
 obtain ⟨xw,hxw⟩ : ∃ x,t.waiting[kw]? = some x := ⟨_,List.getElem?_eq_getElem hltw⟩
 refine kK <| kS <| au <| kQ <| ba (kd := .i64) (T := 47) (e := 62) (K := 3) 1 [2,49,50,51,53] [(53,aI (kw : Int))] kw [iI xw.ip,iI xw.port,iI xw.my] (av (.slice Atw t.waiting.length Ctw) 3 (t.waiting.map a8)) (by kernel_rfl) rfl (by kernel_rfl) rfl rfl (by kernel_rfl) (by kernel_rfl) (by kernel_rfl) (by kernel_rfl) hltw (by simp) (fun w h => h) (fun b h => h) (by simp only [List.getElem?_map,hxw]; rfl) ?_
 refine kEA [2,7,8,49,50,51] [(7,aI (kw : Int)),(8,.p 2 0)] [⟨62,bX xw⟩] <| kQ <| kCS 2 [2,7,8,49,50,51,56,57] [(2,.p 0 0),(7,aI (kw : Int)),(8,.p 2 0),(49,.v (.slice Atw t.waiting.length Ctw)),(50,aI ((t.waiting.length : Nat) : Int)),(51,aI (kw : Int)),(56,.v (.agg (bY t (.slice Atc t.conns.length Ctc) (.slice Atw t.waiting.length Ctw)).toArray)),(57,.v (.agg (bX xw).toArray))] 55 [.agg (bY t (.slice Atc t.conns.length Ctc) (.slice Atw t.waiting.length Ctw)).toArray,.agg (bX xw).toArray] (some 58) rfl (bw fun ww hf => dY t (.slice Atc t.conns.length Ctc) (.slice Atw t.waiting.length Ctw) xw ww (hf _ m0) (hf _ m1) (hf _ m2) ) ?_
 intro _
 refine bB 2 [2,7,8,49,50,51,60] [(60,aB (decide ((ay t xw) < 0)))] <| kP 60 (decide ((ay t xw) < 0)) (fun h8 => ?_) (fun h8 => ?_)
 have h8p := of_decide_eq_true h8
 have hno := tableOk_w (l := l) hxw (wOne_no1 (by simpa using h8))
 refine ac [2,49,50,51,67] [(67,aB true)] <| kT <| kQ <| am [4] [(4,aB false)] ?_
 refine kR ?_
 exact ⟨[.bool false],by kernel_rfl,fun w' hb hf => ⟨a7 (show (false : Bool) = aW t l from by first | exact hno.symm | (exact (b0 (by simpa using h1) (by omega) (by omega) hallC hgew HKw).symm) | (exact (b6 (by simpa using h1)).symm) | (exact (b5 (by omega)).symm) | (exact (aH (by omega)).symm)),hb⟩⟩
 have h8p := of_decide_eq_false h8
 have hy1 : ¬ ay t xw < 0 := by simpa using h8
 refine ch 3 [2,7,49,50,51,60,62,63] [(60,aB false),(62,.v (.slice Atw t.waiting.length Ctw)),(63,.v (.agg (bX xw).toArray))] 90 [.slice Atw t.waiting.length Ctw,.agg (bX xw).toArray] (some 64) rfl (bw fun ww hf => yIndexTuple_c t.waiting (.slice Atw t.waiting.length Ctw) xw ww (hf _ m2) ) ?_
 intro _
 refine ac [2,49,50,51,67] [(67,aB ((ct t.waiting xw) != (kw : Int)))] <| kC ((ct t.waiting xw) != (kw : Int)) (fun h9 => ?_) (fun h9 => ?_)
 have h9p := neT h9
 have hno := tableOk_w (l := l) hxw (wOne_no2 (by simpa using h9))
 refine kQ <| am [4] [(4,aB false)] <| kR ?_
 exact ⟨[.bool false],by kernel_rfl,fun w' hb hf => ⟨a7 (show (false : Bool) = aW t l from by first | exact hno.symm | (exact (b0 (by simpa using h1) (by omega) (by omega) hallC hgew HKw).symm) | (exact (b6 (by simpa using h1)).symm) | (exact (b5 (by omega)).symm) | (exact (aH (by omega)).symm)),hb⟩⟩
 have h9p := neF h9
 have hy2 : ct t.waiting xw = (kw : Int) := by simpa using h9
 refine kK <| kG <| bB 2 [2,49,50,51] [(51,aI (K6.wrap ((kw : Int) + 1)))] <| cz [2,49,50,51] [(51,aI (K6.wrap ((kw : Int) + 1)))] [(51,aI ((kw : Int) + 1))] (by rw [show (K6.wrap ((kw : Int) + 1)) = ((kw : Int) + 1) from aL (by omega) (by omega)]) (by kernel_rfl) ?_
 refine ac [2,49,50,51] [] ?_
 exact ⟨⟨(kw + 1),⟨by omega,df (p := wOne t) hxw (wOne_yes hy1 hy2) HKw⟩⟩,kF 2 0 [2,49,50,51],by show t.waiting.length - (kw + 1) < t.waiting.length - kw; omega⟩
 have h7p := of_decide_eq_false h7
 have hgew : kw = t.waiting.length := by simp at h7; omega
 refine bu <| kQ <| am [4] [(4,aB true)] <| kR ?_
 exact ⟨[.bool true],by kernel_rfl,fun w' hb hf => ⟨a7 (show (true : Bool) = aW t l from by first | exact hno.symm | (exact (b0 (by simpa using h1) (by omega) (by omega) hallC hgew HKw).symm) | (exact (b6 (by simpa using h1)).symm) | (exact (b5 (by omega)).symm) | (exact (aH (by omega)).symm)),hb⟩⟩
def ai (a b : Mac) : Bool := (a.use == b.use) && ((a.k == b.k) && ((a.l == b.l) && dt cJ a.rows b.rows))
theorem yEqualMacRow_c (a : List Mrw) (aV : Value) (b : List Mrw) (bV : Value) (w : World) (hl_aV : Sl w aV 2 (a.map a5)) (hl_bV : Sl w bV 2 (b.map a5))  : Calls Try.prog 102 #[aV, bV] w fun e w' => e = .returned (.bool (dt cJ a b)) ∧ Below w.heap.size w w' := by
 obtain ⟨Aa,Ca,hva⟩ := hl_aV.form
 rw [List.length_map] at hva; subst hva
 have hna := hl_aV.len; rw [List.length_map] at hna
 have hqa := Sl.capLe hl_aV
 obtain ⟨Ab,Cb,hvb⟩ := hl_bV.form
 rw [List.length_map] at hvb; subst hvb
 have hnb := hl_bV.len; rw [List.length_map] at hnb
 have hqb := Sl.capLe hl_bV
 refine aj (args := [.slice Aa a.length Ca,.slice Ab b.length Cb]) (fn := Try.f102) [av (.slice Aa a.length Ca) 2 (a.map a5),av (.slice Ab b.length Cb) 2 (b.map a5)] Try.func102 rfl Try.ntmps102 rfl (by simp only [List.mem_cons,List.not_mem_nil,or_false,forall_eq_or_imp,forall_eq]; exact ⟨⟨rfl,hl_aV⟩,⟨rfl,hl_bV⟩⟩) ?_
 refine kQ <| cY [0,1] ⟨[(0,.v (.slice Aa a.length Ca)),(1,.v (.slice Ab b.length Cb))],[],[],[av (.slice Aa a.length Ca) 2 (a.map a5),av (.slice Ab b.length Cb) 2 (b.map a5)]⟩ <| kS <| kQ <| ac [0,1,10] [(10,aB (((a.length : Nat) : Int) != ((b.length : Nat) : Int)))] ?_
 refine kC (((a.length : Nat) : Int) != ((b.length : Nat) : Int)) (fun h1 => ?_) (fun h1 => ?_)
 have h1p := neT h1
 refine kQ <| am [4] [(4,aB false)] <| kR ?_
 exact ⟨[.bool false],by kernel_rfl,fun w' hb hf => ⟨a7 (show (false : Bool) = dt cJ a b from by first | exact hnow.symm | exact hallw.symm | exact (cW (by omega)).symm),hb⟩⟩
 have h1p := neF h1
 refine kK <| kS <| kQ <| ac [0,1,12,13] [(12,aI ((a.length : Nat) : Int)),(13,aI 0)] ?_
 refine au ?_
 have hlenw : a.length = b.length := by omega
 refine aA (α := {x : Nat // (fun (kw : Nat) => kw ≤ a.length ∧ ∀ (i : Nat) (x y : Mrw),i < kw → a[i]? = some x → b[i]? = some y → cJ x y = true) x}) (fun x => (fun (kw : Nat) => (⟨[(0,.v (.slice Aa a.length Ca)),(1,.v (.slice Ab b.length Cb)),(12,aI ((a.length : Nat) : Int)),(13,aI (kw : Int))],[],[],[av (.slice Aa a.length Ca) 2 (a.map a5),av (.slice Ab b.length Cb) 2 (b.map a5)]⟩ : St)) x.1) (fun x => a.length - x.1) ⟨(0),⟨Nat.zero_le _,fun i x y hi => by omega⟩⟩ (kF 0 0 [0,1,12,13]) ?_
 rintro ⟨kw,hkw,HKw⟩
 try dsimp only
 try dsimp only at hkw HKw
 refine kQ <| ac [0,1,12,13,14] [(14,aB (decide ((kw : Int) < ((a.length : Nat) : Int))))] <| kS <| kC (decide ((kw : Int) < ((a.length : Nat) : Int))) (fun h2 => ?_) (fun h2 => ?_)
 have h2p := of_decide_eq_true h2
 have hltw : kw < a.length := by simpa using h2
 obtain ⟨xw,hxw⟩ : ∃ x,a[kw]? = some x := ⟨_,List.getElem?_eq_getElem hltw⟩
 obtain ⟨yw,hyw⟩ : ∃ y,b[kw]? = some y := ⟨_,List.getElem?_eq_getElem (by omega)⟩
 refine kK <| kS <| au <| kQ <| ac [0,1,5,12,13] [(5,aI (kw : Int))] ?_
 refine kS <| ci <| cv (K := 2) (j := kw) [.string xw.input,iI xw.value] (av (.slice Aa a.length Ca) 2 (a.map a5)) (fun _ _ h => h) (by simp) (fun w h => h) (fun b h => h) (by simp only [List.getElem?_map,hxw]; rfl) (fun bq3 offq3 hAq3 => ?_)
 refine cv (K := 2) (j := kw) [.string yw.input,iI yw.value] (av (.slice Ab b.length Cb) 2 (b.map a5)) (fun _ _ h => h) (by simp) (fun w h => h) (fun b h => h) (by simp only [List.getElem?_map,hyw]; rfl) (fun bq4 offq4 hAq4 => ?_)
 refine bQ [] (by kernel_rfl) (fun ρ σ hq5 => ?_)
 refine dm [0,1,4,5] [21,20,17,16,0,1,12,13] 5 [(21,aI (kw : Int)),(20,.v (.slice Ab b.length Cb)),(17,aI (kw : Int)),(16,.v (.slice Aa a.length Ca))] <| bU (kd := .i64) (T := 39) (e := 141) (K := 2) (j := kw) (A := Aa) (len := a.length) (cap := Ca) 2 0 _ rfl (by kernel_rfl) (by kernel_rfl) (by kernel_rfl) (fun _ _ h => h) (by kernel_rfl) rfl rfl (by kernel_rfl) (by kernel_rfl) (by kernel_rfl) (by kernel_rfl) hltw hAq3 hq5.1.2 (by kernel_rfl) rfl ?_
 refine dm [3] [19,21,20,0,1,12,13] 3 [(19,.v (.agg (mrwL xw).toArray))] <| bU (kd := .i64) (T := 39) (e := 141) (K := 2) (j := kw) (A := Ab) (len := b.length) (cap := Cb) 6 1 _ rfl (by kernel_rfl) (by kernel_rfl) (by kernel_rfl) (fun _ _ h => h) (by kernel_rfl) rfl rfl (by kernel_rfl) (by kernel_rfl) (by kernel_rfl) (by kernel_rfl) (by omega) hAq4 hq5.2 (by kernel_rfl) rfl ?_
 refine dm [7] [23,19,0,1,12,13] 1 [(23,.v (.agg (mrwL yw).toArray))] <| kX 8 (.bool (!cJ xw yw)) rfl (fun _ _ ww hA => act_bin hA rfl (by kernel_rfl) (by kernel_rfl) (agg_bin (by kernel_rfl) (run_neq_MRW xw.input xw.value yw.input yw.value ww))) ?_
 refine kZ <| kC (!cJ xw yw) (fun h6 => ?_) (fun h6 => ?_)
 have hnow := sameL_no hxw hyw (by simpa using h6)
 refine kQ <| am [4] [(4,aB false)] <| kR ?_
 exact ⟨[.bool false],by kernel_rfl,fun w' hb hf => ⟨a7 (show (false : Bool) = dt cJ a b from by first | exact hnow.symm | exact hallw.symm | exact (cW (by omega)).symm),hb⟩⟩
 have hyew : cJ xw yw = true := by simpa using h6
 refine kK <| kG <| bB 2 [0,1,12,13] [(13,aI (K6.wrap ((kw : Int) + 1)))] <| cz [0,1,12,13] [(13,aI (K6.wrap ((kw : Int) + 1)))] [(13,aI ((kw : Int) + 1))] (by rw [show (K6.wrap ((kw : Int) + 1)) = ((kw : Int) + 1) from aL (by omega) (by omega)]) (by kernel_rfl) ?_
 refine ac [0,1,12,13] [] ?_
 exact ⟨⟨(kw + 1),⟨by omega,same_step hxw hyw hyew HKw⟩⟩,kF 0 0 [0,1,12,13],by show a.length - (kw + 1) < a.length - kw; omega⟩
 have h2p := of_decide_eq_false h2
 have hgew : kw = a.length := by simp at h2; omega
 have hallw := sameL_nil_of hgew hlenw HKw
 refine bu <| kQ <| am [4] [(4,aB true)] <| kR ?_
 exact ⟨[.bool true],by kernel_rfl,fun w' hb hf => ⟨a7 (show (true : Bool) = dt cJ a b from by first | exact hnow.symm | exact hallw.symm | exact (cW (by omega)).symm),hb⟩⟩
theorem ysSameMac_c (a : Mac) (a_rowsV : Value) (b : Mac) (b_rowsV : Value) (w : World) (hl_a_rowsV : Sl w a_rowsV 2 (a.rows.map a5)) (hl_b_rowsV : Sl w b_rowsV 2 (b.rows.map a5))  : Calls Try.prog 59 #[.agg (aG a a_rowsV).toArray, .agg (aG b b_rowsV).toArray] w fun e w' => e = .returned (.bool (ai a b)) ∧ Below w.heap.size w w' := by
 obtain ⟨Aar,Car,hvar⟩ := hl_a_rowsV.form
 rw [List.length_map] at hvar; subst hvar
 have hnar := hl_a_rowsV.len; rw [List.length_map] at hnar
 have hqar := Sl.capLe hl_a_rowsV
 obtain ⟨Abr,Cbr,hvbr⟩ := hl_b_rowsV.form
 rw [List.length_map] at hvbr; subst hvbr
 have hnbr := hl_b_rowsV.len; rw [List.length_map] at hnbr
 have hqbr := Sl.capLe hl_b_rowsV
 refine aj (args := [.agg (aG a (.slice Aar a.rows.length Car)).toArray,.agg (aG b (.slice Abr b.rows.length Cbr)).toArray]) (fn := Try.f59) [av (.slice Aar a.rows.length Car) 2 (a.rows.map a5),av (.slice Abr b.rows.length Cbr) 2 (b.rows.map a5)] Try.func59 rfl Try.ntmps59 rfl (by simp only [List.mem_cons,List.not_mem_nil,or_false,forall_eq_or_imp,forall_eq]; exact ⟨⟨rfl,hl_a_rowsV⟩,⟨rfl,hl_b_rowsV⟩⟩) ?_
 refine kQ <| cY [2,3] ⟨[(2,.p 0 0),(3,.p 1 0)],[⟨41,aG a (.slice Aar a.rows.length Car)⟩,⟨41,aG b (.slice Abr b.rows.length Cbr)⟩],[],[av (.slice Aar a.rows.length Car) 2 (a.rows.map a5),av (.slice Abr b.rows.length Cbr) 2 (b.rows.map a5)]⟩ <| kS <| kQ <| bB 6 [2,3,11] [(11,aB (!(a.use == b.use)))] ?_
 refine kP 11 (!(a.use == b.use)) (fun h1 => ?_) (fun h1 => ?_)
 have h1n := aa h1
 have h1np := eqF h1n
 refine ac [2,3,33] [(33,aB true)] <| kT <| kQ <| am [4] [(4,aB false)] ?_
 refine kR ?_
 exact ⟨[.bool false],by kernel_rfl,fun w' hb hf => ⟨a7 (show (false : Bool) = ai a b from by first | (unfold ai; rw [hnow]; simp; done) | (unfold ai; rw [hallw]; simp_all; done) | (unfold ai; rw [cW (a := a.rows) (by omega)]; simp; done) | (unfold ai; simp_all; done)),hb⟩⟩
 have h1n := ak h1
 have h1np := eqT h1n
 refine bB 7 [2,3,18] [(18,aB (a.k != b.k))] <| kP 18 (a.k != b.k) (fun h2 => ?_) (fun h2 => ?_)
 have h2p := neT h2
 refine ac [2,3,33] [(33,aB true)] <| kT <| kQ <| am [4] [(4,aB false)] ?_
 refine kR ?_
 exact ⟨[.bool false],by kernel_rfl,fun w' hb hf => ⟨a7 (show (false : Bool) = ai a b from by first | (unfold ai; rw [hnow]; simp; done) | (unfold ai; rw [hallw]; simp_all; done) | (unfold ai; rw [cW (a := a.rows) (by omega)]; simp; done) | (unfold ai; simp_all; done)),hb⟩⟩
 have h2p := neF h2
 refine bB 7 [2,3,25] [(25,aB (a.l != b.l))] <| kP 25 (a.l != b.l) (fun h3 => ?_) (fun h3 => ?_)
 have h3p := neT h3
 refine ac [2,3,33] [(33,aB true)] <| kT <| kQ <| am [4] [(4,aB false)] ?_
 refine kR ?_
 exact ⟨[.bool false],by kernel_rfl,fun w' hb hf => ⟨a7 (show (false : Bool) = ai a b from by first | (unfold ai; rw [hnow]; simp; done) | (unfold ai; rw [hallw]; simp_all; done) | (unfold ai; rw [cW (a := a.rows) (by omega)]; simp; done) | (unfold ai; simp_all; done)),hb⟩⟩
 have h3p := neF h3
 refine ac [2,3,33] [(33,aB (((a.rows.length : Nat) : Int) != ((b.rows.length : Nat) : Int)))] <| kC (((a.rows.length : Nat) : Int) != ((b.rows.length : Nat) : Int)) (fun h4 => ?_) (fun h4 => ?_)
 have h4p := neT h4
 refine kQ <| am [4] [(4,aB false)] <| kR ?_
 exact ⟨[.bool false],by kernel_rfl,fun w' hb hf => ⟨a7 (show (false : Bool) = ai a b from by first | (unfold ai; rw [hnow]; simp; done) | (unfold ai; rw [hallw]; simp_all; done) | (unfold ai; rw [cW (a := a.rows) (by omega)]; simp; done) | (unfold ai; simp_all; done)),hb⟩⟩
 have h4p := neF h4
 refine kK <| kS <| kQ <| ac [2,3,5] [(5,aI 0)] ?_
 refine au ?_
 have hlenw : a.rows.length = b.rows.length := by omega
 refine aA (α := {x : Nat // (fun (kw : Nat) => kw ≤ a.rows.length ∧ ∀ (i : Nat) (x y : Mrw),i < kw → a.rows[i]? = some x → b.rows[i]? = some y → cJ x y = true) x}) (fun x => (fun (kw : Nat) => (⟨[(2,.p 0 0),(3,.p 1 0),(5,aI (kw : Int))],[⟨41,aG a (.slice Aar a.rows.length Car)⟩,⟨41,aG b (.slice Abr b.rows.length Cbr)⟩],[],[av (.slice Aar a.rows.length Car) 2 (a.rows.map a5),av (.slice Abr b.rows.length Cbr) 2 (b.rows.map a5)]⟩ : St)) x.1) (fun x => a.rows.length - x.1) ⟨(0),⟨Nat.zero_le _,fun i x y hi => by omega⟩⟩ (kF 2 0 [2,3,5]) ?_
 rintro ⟨kw,hkw,HKw⟩
 try dsimp only
 try dsimp only at hkw HKw
 refine kS <| kQ <| ac [2,3,5,38] [(38,aB (decide ((kw : Int) < ((a.rows.length : Nat) : Int))))] <| kC (decide ((kw : Int) < ((a.rows.length : Nat) : Int))) (fun h5 => ?_) (fun h5 => ?_)
 have h5p := of_decide_eq_true h5
 have hltw : kw < a.rows.length := by simpa using h5
 obtain ⟨xw,hxw⟩ : ∃ x,a.rows[kw]? = some x := ⟨_,List.getElem?_eq_getElem hltw⟩
 obtain ⟨yw,hyw⟩ : ∃ y,b.rows[kw]? = some y := ⟨_,List.getElem?_eq_getElem (by omega)⟩
 refine kK <| kS <| au <| kS <| ci ?_
 refine cv (K := 2) (j := kw) [.string xw.input,iI xw.value] (av (.slice Aar a.rows.length Car) 2 (a.rows.map a5)) (fun _ _ h => h) (by simp) (fun w h => h) (fun b h => h) (by simp only [List.getElem?_map,hxw]; rfl) (fun bq6 offq6 hAq6 => ?_)
 refine cv (K := 2) (j := kw) [.string yw.input,iI yw.value] (av (.slice Abr b.rows.length Cbr) 2 (b.rows.map a5)) (fun _ _ h => h) (by simp) (fun w h => h) (fun b h => h) (by simp only [List.getElem?_map,hyw]; rfl) (fun bq7 offq7 hAq7 => ?_)
 refine bQ [] (by kernel_rfl) (fun ρ σ hq8 => ?_)
 refine dm [0,1,2,5,6,7] [48,47,43,42,2,3,5] 5 [(48,aI (kw : Int)),(47,.v (.slice Abr b.rows.length Cbr)),(43,aI (kw : Int)),(42,.v (.slice Aar a.rows.length Car))] <| bU (kd := .i64) (T := 39) (e := 141) (K := 2) (j := kw) (A := Aar) (len := a.rows.length) (cap := Car) 3 0 _ rfl (by kernel_rfl) (by kernel_rfl) (by kernel_rfl) (fun _ _ h => h) (by kernel_rfl) rfl rfl (by kernel_rfl) (by kernel_rfl) (by kernel_rfl) (by kernel_rfl) hltw hAq6 hq8.1.2 (by kernel_rfl) rfl ?_
 refine dm [4] [45,48,47,2,3,5] 3 [(45,.v (.agg (mrwL xw).toArray))] <| bU (kd := .i64) (T := 39) (e := 141) (K := 2) (j := kw) (A := Abr) (len := b.rows.length) (cap := Cbr) 8 1 _ rfl (by kernel_rfl) (by kernel_rfl) (by kernel_rfl) (fun _ _ h => h) (by kernel_rfl) rfl rfl (by kernel_rfl) (by kernel_rfl) (by kernel_rfl) (by kernel_rfl) (by omega) hAq7 hq8.2 (by kernel_rfl) rfl ?_
 refine dm [9] [50,45,2,3,5] 1 [(50,.v (.agg (mrwL yw).toArray))] <| kX 10 (.bool (!cJ xw yw)) rfl (fun _ _ ww hA => act_bin hA rfl (by kernel_rfl) (by kernel_rfl) (agg_bin (by kernel_rfl) (run_neq_MRW xw.input xw.value yw.input yw.value ww))) ?_
 refine kZ <| kC (!cJ xw yw) (fun h9 => ?_) (fun h9 => ?_)
 have hnow := sameL_no hxw hyw (by simpa using h9)
 refine kQ <| am [4] [(4,aB false)] <| kR ?_
 exact ⟨[.bool false],by kernel_rfl,fun w' hb hf => ⟨a7 (show (false : Bool) = ai a b from by first | (unfold ai; rw [hnow]; simp; done) | (unfold ai; rw [hallw]; simp_all; done) | (unfold ai; rw [cW (a := a.rows) (by omega)]; simp; done) | (unfold ai; simp_all; done)),hb⟩⟩
 have hyew : cJ xw yw = true := by simpa using h9
 refine kK <| kG <| dn 3 [2,3,5] [(2,.p 0 0),(3,.p 1 0),(5,aI (K6.wrap ((kw : Int) + 1)))] <| xl_eqS (t' := [(2,.p 0 0),(3,.p 1 0),(5,aI ((kw : Int) + 1))]) (by rw [show (K6.wrap ((kw : Int) + 1)) = ((kw : Int) + 1) from aL (by omega) (by omega)]) ?_
 refine ac [2,3,5] [] ?_
 exact ⟨⟨(kw + 1),⟨by omega,same_step hxw hyw hyew HKw⟩⟩,kF 2 0 [2,3,5],by show a.rows.length - (kw + 1) < a.rows.length - kw; omega⟩
 have h5p := of_decide_eq_false h5
 have hgew : kw = a.rows.length := by simp at h5; omega
 have hallw := sameL_nil_of hgew hlenw HKw
 refine bu <| kQ <| am [4] [(4,aB true)] <| kR ?_
 exact ⟨[.bool true],by kernel_rfl,fun w' hb hf => ⟨a7 (show (true : Bool) = ai a b from by first | (unfold ai; rw [hnow]; simp; done) | (unfold ai; rw [hallw]; simp_all; done) | (unfold ai; rw [cW (a := a.rows) (by omega)]; simp; done) | (unfold ai; simp_all; done)),hb⟩⟩
theorem yiSameMac_c (a : Mac) (a_rowsV : Value) (b : Mac) (b_rowsV : Value) (w : World) (hl_a_rowsV : Sl w a_rowsV 2 (a.rows.map a5)) (hl_b_rowsV : Sl w b_rowsV 2 (b.rows.map a5))  : Calls Try.prog 65 #[.agg (aG a a_rowsV).toArray, .agg (aG b b_rowsV).toArray] w fun e w' => e = .returned (.bool (ai a b)) ∧ Below w.heap.size w w' := by
 obtain ⟨Aar,Car,hvar⟩ := hl_a_rowsV.form
 rw [List.length_map] at hvar; subst hvar
 have hnar := hl_a_rowsV.len; rw [List.length_map] at hnar
 have hqar := Sl.capLe hl_a_rowsV
 obtain ⟨Abr,Cbr,hvbr⟩ := hl_b_rowsV.form
 rw [List.length_map] at hvbr; subst hvbr
 have hnbr := hl_b_rowsV.len; rw [List.length_map] at hnbr
 have hqbr := Sl.capLe hl_b_rowsV
 refine aj (args := [.agg (aG a (.slice Aar a.rows.length Car)).toArray,.agg (aG b (.slice Abr b.rows.length Cbr)).toArray]) (fn := Try.f65) [av (.slice Aar a.rows.length Car) 2 (a.rows.map a5),av (.slice Abr b.rows.length Cbr) 2 (b.rows.map a5)] Try.func65 rfl Try.ntmps65 rfl (by simp only [List.mem_cons,List.not_mem_nil,or_false,forall_eq_or_imp,forall_eq]; exact ⟨⟨rfl,hl_a_rowsV⟩,⟨rfl,hl_b_rowsV⟩⟩) ?_
 refine kQ <| cY [2,3] ⟨[(2,.p 0 0),(3,.p 1 0)],[⟨41,aG a (.slice Aar a.rows.length Car)⟩,⟨41,aG b (.slice Abr b.rows.length Cbr)⟩],[],[av (.slice Aar a.rows.length Car) 2 (a.rows.map a5),av (.slice Abr b.rows.length Cbr) 2 (b.rows.map a5)]⟩ <| kS <| bS ⟨[(4,aB ((a.use == b.use) && ((a.k == b.k) && ((a.l == b.l) && (dt cJ a.rows b.rows)))))],[⟨41,aG a (.slice Aar a.rows.length Car)⟩,⟨41,aG b (.slice Abr b.rows.length Cbr)⟩],[],[av (.slice Aar a.rows.length Car) 2 (a.rows.map a5),av (.slice Abr b.rows.length Cbr) 2 (b.rows.map a5)]⟩ ?_ ?_
 refine kG <| dn 6 [2,3,10] [(2,.p 0 0),(3,.p 1 0),(10,aB (a.use == b.use))] <| kP 10 (a.use == b.use) (fun h1 => ?_) (fun h1 => ?_)
 have h1p := eqT h1
 refine dn 7 [2,3,17] [(2,.p 0 0),(3,.p 1 0),(17,aB (a.k == b.k))] <| kP 17 (a.k == b.k) (fun h2 => ?_) (fun h2 => ?_)
 have h2p := eqT h2
 refine dn 7 [2,3,24] [(2,.p 0 0),(3,.p 1 0),(24,aB (a.l == b.l))] <| kP 24 (a.l == b.l) (fun h3 => ?_) (fun h3 => ?_)
 have h3p := eqT h3
 refine kCS 4 [24,26,28] [(24,aB true),(26,.v (.slice Aar a.rows.length Car)),(28,.v (.slice Abr b.rows.length Cbr))] 102 [.slice Aar a.rows.length Car,.slice Abr b.rows.length Cbr] (some 29) rfl (bw fun ww hf => yEqualMacRow_c a.rows (.slice Aar a.rows.length Car) b.rows (.slice Abr b.rows.length Cbr) ww (hf _ m0) (hf _ m1) ) ?_
 intro _
 refine am [4] [(4,aB (dt cJ a.rows b.rows))] ?_
 show Wk _ _
 try rw [h1]
 try rw [h2]
 try rw [h3]
 exact kF 2 0 [4]
 have h3p := eqF h3
 refine am [4] [(4,aB false)] ?_
 show Wk _ _
 try rw [h1]
 try rw [h2]
 try rw [h3]
 exact kF 2 0 [4]
 have h2p := eqF h2
 refine am [4] [(4,aB false)] ?_
 show Wk _ _
 try rw [h1]
 try rw [h2]
 exact kF 2 0 [4]
 have h1p := eqF h1
 refine am [4] [(4,aB false)] ?_
 show Wk _ _
 try rw [h1]
 exact kF 2 0 [4]
 refine kR ?_
 exact ⟨[.bool ((a.use == b.use) && ((a.k == b.k) && ((a.l == b.l) && (dt cJ a.rows b.rows))))],by kernel_rfl,fun w' hb hf => ⟨a7 (show ((a.use == b.use) && ((a.k == b.k) && ((a.l == b.l) && (dt cJ a.rows b.rows))) : Bool) = ai a b from by first | rfl | (simp [ai, *]; done)),hb⟩⟩
theorem yszConnS_c (a : List CV) (aV : Value) (left : Int) (w : World) (hl_aV : Sl w aV 25 (a.map ah)) (hh_aV : ∀ x ∈ a, Sl w x.2 2 (x.1.r.held.map pC)) (h0 : 0 ≤ left) (h1 : left ≤ 1048576) (hm : ∀ x ∈ a, conMax x.1) : Calls Try.prog 57 #[aV, iI left] w fun e w' => ∃ r : Int, e = .returned (iI r) ∧ szP left r a ∧ Below w.heap.size w w' := by
 obtain ⟨Aa,Ca,hva⟩ := hl_aV.form
 rw [List.length_map] at hva; subst hva
 have hna := hl_aV.len; rw [List.length_map] at hna
 have hqa := Sl.capLe hl_aV
 refine aj (args := [.slice Aa a.length Ca,iI left]) (fn := Try.f57) [av (.slice Aa a.length Ca) 25 (a.map ah),bx a] Try.func57 rfl Try.ntmps57 rfl (by simp only [List.mem_cons,List.not_mem_nil,or_false,forall_eq_or_imp,forall_eq]; exact ⟨⟨rfl,hl_aV⟩,⟨rfl,hh_aV⟩⟩) ?_
 refine kQ <| cY [0,1] ⟨[(0,.v (.slice Aa a.length Ca)),(1,aI left)],[],[],[av (.slice Aa a.length Ca) 25 (a.map ah),bx a]⟩ <| kQ <| bB 5 [0,1] [(1,aI (K6.wrap (left - ((a.length : Nat) : Int))))] ?_
 refine cz [0,1] [(1,aI (K6.wrap (left - ((a.length : Nat) : Int))))] [(1,aI (left - ((a.length : Nat) : Int)))] (by rw [show (K6.wrap (left - ((a.length : Nat) : Int))) = (left - ((a.length : Nat) : Int)) from aL (by omega) (by omega)]) (by kernel_rfl) ?_
 refine ac [0,1] [] <| kS <| kQ <| ac [0,1,11] [(11,aB (decide ((left - ((a.length : Nat) : Int)) < 0)))] ?_
 refine kC (decide ((left - ((a.length : Nat) : Int)) < 0)) (fun h1 => ?_) (fun h1 => ?_)
 have h1p := of_decide_eq_true h1
 refine kQ <| am [4] [(4,aI (-1))] <| kR ?_
 exact ⟨[iI (-1)],by kernel_rfl,fun w' hb hf => ⟨_,rfl,.inl rfl,hb⟩⟩
 have h1p := of_decide_eq_false h1
 refine kK <| kS <| kQ <| ac [0,1,5] [(5,aI 0)] ?_
 refine au <| aA (α := {x : Nat × Int // (fun (i : Nat) (z : Int) => i ≤ a.length ∧ 0 ≤ z ∧ z ≤ left - (a.length : Int) ∧ ∀ (j : Nat) (x : CV),j < i → a[j]? = some x → ConFit left x.1) x.1 x.2}) (fun x => (fun (i : Nat) (z : Int) => (⟨[(0,.v (.slice Aa a.length Ca)),(1,aI z),(5,aI (i : Int))],[],[],[av (.slice Aa a.length Ca) 25 (a.map ah),bx a]⟩ : St)) x.1.1 x.1.2) (fun x => (fun (i : Nat) (z : Int) => a.length - i) x.1.1 x.1.2) ⟨(0,left - ((a.length : Nat) : Int)),⟨Nat.zero_le _,(by first | omega | (simp at *; omega)),(by omega),(fun j x hj => by omega)⟩⟩ (kF 0 0 [0,1,5]) ?_
 rintro ⟨⟨i,z⟩,hi,hz0,hz1,HK⟩
 try dsimp only
 try dsimp only at hi hz0 hz1 HK
 refine kS <| kQ <| ac [0,1,5,15] [(15,aB (decide ((i : Int) < ((a.length : Nat) : Int))))] <| kC (decide ((i : Int) < ((a.length : Nat) : Int))) (fun h2 => ?_) (fun h2 => ?_)
 have h2p := of_decide_eq_true h2
 have hlt : i < a.length := by simpa using h2
 obtain ⟨x0,hx⟩ : ∃ x,a[i]? = some x := ⟨_,List.getElem?_eq_getElem hlt⟩
 obtain ⟨x,xa,xc,rfl⟩ := db (hh_aV x0 (List.mem_of_getElem? hx))
 have hmx : conMax x := hm _ (List.mem_of_getElem? hx)
 refine kK <| kS <| au <| kQ <| ba (kd := .i64) (T := 31) (e := 139) (K := 25) 2 [0,1,5,18,19] [(18,.v (.slice Aa a.length Ca)),(19,aI (i : Int))] i [iI x.t.ip,iI x.t.port,iI x.t.my,iI x.state,iI x.s.una,.string x.s.data,iI x.s.sent,.bool x.s.fin,.bool x.s.finSent,.bool x.s.done,iI x.r.next,.string x.r.data,.slice xa x.r.held.length xc,iI x.r.fin,.bool x.r.done,iI x.window,iI x.most,iI x.o.mss,iI x.o.scale,.bool x.o.sack,.bool x.o.stamp,iI x.o.val,iI x.o.echo,iI x.timer,iI x.tries] (av (.slice Aa a.length Ca) 25 (a.map ah)) (by kernel_rfl) rfl (by kernel_rfl) rfl rfl (by kernel_rfl) (by kernel_rfl) (by kernel_rfl) (by kernel_rfl) hlt (by simp) (fun w h => h) (fun b h => h) (by simp only [List.getElem?_map,hx]; rfl) ?_
 refine ch 2 [0,1,5,21,22] [(21,.v (.agg (co x (cS xa x xc)).toArray)),(22,aI z)] 98 [.agg (co x (cS xa x xc)).toArray,iI z] (some 23) rfl (xc_e (α := Int) (F := fun y => iI y) (p := fun r => r = -1 ∨ (0 ≤ r ∧ r ≤ z ∧ ConFit z x)) fun ww hf => szConn_c x.t.ip x.t.port x.t.my x.state x.s.una x.s.data x.s.sent x.s.fin x.s.finSent x.s.done x.r.next x.r.data x.r.held (cS xa x xc) x.r.fin x.r.done x.window x.most x.o.mss x.o.scale x.o.sack x.o.stamp x.o.val x.o.echo x.timer x.tries z ww ((hf _ m1) (x,.slice xa x.r.held.length xc) (List.mem_of_getElem? hx)) hmx.2.2 (by omega) (by omega) hmx.2.1 hmx.1) ?_
 rintro ⟨r3,hr3⟩
 refine ac [0,1,5] [(1,aI r3)] <| kQ <| ac [0,1,5,25] [(25,aB (decide (r3 < 0)))] <| kC (decide (r3 < 0)) (fun h4 => ?_) (fun h4 => ?_)
 have h4p := of_decide_eq_true h4
 refine kQ <| am [4] [(4,aI (-1))] <| kR ?_
 exact ⟨[iI (-1)],by kernel_rfl,fun w' hb hf => ⟨_,rfl,.inl rfl,hb⟩⟩
 have h4p := of_decide_eq_false h4
 rcases hr3 with hr3 | ⟨hr3a,hr3b,hr3c⟩
 · omega
 refine kK <| kG <| dn 3 [0,1,5] [(0,.v (.slice Aa a.length Ca)),(1,aI r3),(5,aI (K6.wrap ((i : Int) + 1)))] <| xl_eqS (t' := [(0,.v (.slice Aa a.length Ca)),(1,aI r3),(5,aI ((i : Int) + 1))]) (by rw [show (K6.wrap ((i : Int) + 1)) = ((i : Int) + 1) from aL (by omega) (by omega)]) ?_
 refine ac [0,1,5] [] ?_
 exact ⟨⟨(i + 1,r3),⟨hlt,by omega,by omega,sz_step hx (hr3c.mono (by omega)) HK⟩⟩,kF 0 0 [0,1,5],by show (fun (i : Nat) (z : Int) => a.length - i) (i + 1) r3 < a.length - i; (dsimp only; omega)⟩
 have h2p := of_decide_eq_false h2
 have hge : i = a.length := by simp at h2; omega
 refine bu <| kQ <| am [4] [(4,aI z)] <| kR ?_
 exact ⟨[iI z],by kernel_rfl,fun w' hb hf => ⟨_,rfl,.inr ⟨by omega,by omega,by omega,sz_all hge HK⟩,hb⟩⟩
theorem yszTable_c (c : List CV) (wt : List Tup) (tc : Value) (tw : Value) (left : Int) (w : World) (hl_tc : Sl w tc 25 (c.map ah)) (hh_tc : ∀ x ∈ c, Sl w x.2 2 (x.1.r.held.map pC)) (hl_tw : Sl w tw 3 (wt.map a8)) (h0 : 0 ≤ left) (h1 : left ≤ 1048576) (hm : ∀ x ∈ c, conMax x.1) : Calls Try.prog 20 #[.agg #[tc, tw], iI left] w fun e w' => ∃ r : Int, e = .returned (iI r) ∧ (r = -1 ∨ (0 ≤ r ∧ r ≤ left ∧ (c.length : Int) ≤ left ∧ (∀ x ∈ c, ConFit left x.1) ∧ (wt.length : Int) ≤ left)) ∧ Below w.heap.size w w' := by
 obtain ⟨ra_tc,rc_tc,hv_tc⟩ := hl_tc.form
 rw [List.length_map] at hv_tc; subst hv_tc
 have hn_tc := hl_tc.len; rw [List.length_map] at hn_tc
 have hq_tc := Sl.capLe hl_tc
 obtain ⟨ra_tw,rc_tw,hv_tw⟩ := hl_tw.form
 rw [List.length_map] at hv_tw; subst hv_tw
 have hn_tw := hl_tw.len; rw [List.length_map] at hn_tw
 have hq_tw := Sl.capLe hl_tw
 refine aj (args := [.agg #[.slice ra_tc c.length rc_tc,.slice ra_tw wt.length rc_tw],iI left]) (fn := Try.f20) [av (.slice ra_tc c.length rc_tc) 25 (c.map ah),bx c,av (.slice ra_tw wt.length rc_tw) 3 (wt.map a8)] Try.func20 rfl Try.ntmps20 rfl (by simp only [List.mem_cons,List.not_mem_nil,or_false,forall_eq_or_imp,forall_eq]; exact ⟨⟨rfl,hl_tc⟩,⟨rfl,hh_tc⟩,⟨rfl,hl_tw⟩⟩) ?_
 refine kQ <| cY [1,2] ⟨[(1,aI left),(2,.p 0 0)],[⟨34,[.slice ra_tc c.length rc_tc,.slice ra_tw wt.length rc_tw]⟩],[],[av (.slice ra_tc c.length rc_tc) 25 (c.map ah),bx c,av (.slice ra_tw wt.length rc_tw) 3 (wt.map a8)]⟩ <| kQ <| ch 3 [1,2,6,7] [(6,.v (.slice ra_tc c.length rc_tc)),(7,aI left)] 57 [.slice ra_tc c.length rc_tc,iI left] (some 8) rfl (xc_e (α := Int) (F := fun y => iI y) (p := fun r => szP left r c) fun ww hf => yszConnS_c c (.slice ra_tc c.length rc_tc) left ww (hf _ m0) (hf _ m1) (by omega) (by omega) hm) ?_
 rintro ⟨r1,hr1⟩
 refine ac [1,2] [(1,aI r1)] <| kS <| kQ <| ac [1,2,10] [(10,aB (decide (r1 < 0)))] ?_
 refine kC (decide (r1 < 0)) (fun h2 => ?_) (fun h2 => ?_)
 have h2p := of_decide_eq_true h2
 refine kQ <| am [4] [(4,aI (-1))] <| kR ?_
 exact ⟨[iI (-1)],by kernel_rfl,fun w' hb hf => ⟨_,rfl,.inl rfl,hb⟩⟩
 have h2p := of_decide_eq_false h2
 rcases hr1 with hr1 | ⟨hr1a,hr1b,hr1n,hr1c⟩
 · omega
 refine kK <| kQ <| ch 3 [1,12,13] [(12,.v (.slice ra_tw wt.length rc_tw)),(13,aI r1)] 58 [.slice ra_tw wt.length rc_tw,iI r1] (some 14) rfl (cw fun ww hf => szTupleS_c (.slice ra_tw wt.length rc_tw) wt r1 ww (hf _ m2) (by omega) (by omega)) ?_
 intro _
 refine am [1] [(1,aI (if (r1 : Int) < wt.length then -1 else (r1 : Int) - wt.length))] <| kS <| kQ <| ac [1,16] [(16,aB (decide ((if (r1 : Int) < wt.length then -1 else (r1 : Int) - wt.length) < 0)))] ?_
 refine kC (decide ((if (r1 : Int) < wt.length then -1 else (r1 : Int) - wt.length) < 0)) (fun h3 => ?_) (fun h3 => ?_)
 have h3p := of_decide_eq_true h3
 refine kQ <| am [4] [(4,aI (-1))] <| kR ?_
 exact ⟨[iI (-1)],by kernel_rfl,fun w' hb hf => ⟨_,rfl,.inl rfl,hb⟩⟩
 have h3p := of_decide_eq_false h3
 have hsz_wt : wt.length ≤ 1048576 := by by_cases hh : (r1 : Int) < (wt.length : Int) <;> simp [hh] at h3; omega
 refine kK <| kQ <| am [4] [(4,aI (if (r1 : Int) < wt.length then -1 else (r1 : Int) - wt.length))] <| kR ?_
 exact ⟨[iI (if (r1 : Int) < wt.length then -1 else (r1 : Int) - wt.length)],by kernel_rfl,fun w' hb hf => ⟨_,rfl,.inr ⟨by split <;> omega,by split <;> omega,by omega,by assumption,by omega⟩,hb⟩⟩
theorem ytoConnS_c (a : List CV) (aV : Value) (w : World) (hl_aV : Sl w aV 25 (a.map ah)) (hh_aV : ∀ x ∈ a, Sl w x.2 2 (x.1.r.held.map pC)) (hfit : ∀ x ∈ a, cr x.1) (hln : a.length ≤ 1048576) (B : Nat) (hB : B ≤ w.heap.size) : Calls Try.prog 63 #[aV] w fun e w' => XRs w w' e (α := {cs : List CV // pl cs = pl a} × (Option Addr × Nat)) (fun y => .slice y.2.1 y.1.1.length y.2.2) (fun y => [dg B 108 25 (.slice y.2.1 y.1.1.length y.2.2) (y.1.1.map ah), bA B y.1.1]) := by
 obtain ⟨Aa,Ca,hva⟩ := hl_aV.form
 rw [List.length_map] at hva; subst hva
 have hna := hl_aV.len; rw [List.length_map] at hna
 have hqa := Sl.capLe hl_aV
 refine x_callsA (args := [.slice Aa a.length Ca]) (fn := Try.f63) [av (.slice Aa a.length Ca) 25 (a.map ah),bx a] Try.func63 rfl Try.ntmps63 rfl (by simp only [List.mem_cons,List.not_mem_nil,or_false,forall_eq_or_imp,forall_eq]; exact ⟨⟨rfl,hl_aV⟩,⟨rfl,hh_aV⟩⟩) ?_
 refine kQ <| cY [0] ⟨[(0,.v (.slice Aa a.length Ca))],[],[],[av (.slice Aa a.length Ca) 25 (a.map ah),bx a]⟩ <| kQ <| kHD 2 [0,6] [(6,aI ((a.length : Nat) : Int))] rfl (hv_make (kl := .i64) (kc := .i64) (e := 108) (K := 25) (bytes := 208) (m := a.length) (z := .agg (conZ).toArray) (rs := (List.replicate a.length ((⟨⟨0,0,0⟩,0,⟨0,(⟨#[]⟩ : ByteArray),0,false,false,false⟩,⟨0,(⟨#[]⟩ : ByteArray),[],0,false⟩,0,0,⟨0,0,false,false,0,0⟩,0,0⟩,.slice none 0 0) : CV)).map ah) rfl (by kernel_rfl) (by kernel_rfl) (by kernel_rfl) (by kernel_rfl) (by (try simp only [List.length_map,List.length_append,List.length_cons,List.length_nil,List.length_take,List.length_drop,maxLen]); omega) (by (try simp only [List.length_map,List.length_append,List.length_cons,List.length_nil,List.length_take,List.length_drop,maxLen]); omega) (by rw [List.map_replicate]; rfl)) ?_
 intro g1
 refine ac [0,3] [(3,.v (.slice (some ⟨g1,0,none⟩) a.length a.length))] <| kS <| kQ <| ac [0,3,4] [(4,aI 0)] ?_
 refine au <| xw_free (bA w.heap.size (List.replicate a.length ((⟨⟨0,0,0⟩,0,⟨0,(⟨#[]⟩ : ByteArray),0,false,false,false⟩,⟨0,(⟨#[]⟩ : ByteArray),[],0,false⟩,0,0,⟨0,0,false,false,0,0⟩,0,0⟩,.slice none 0 0) : CV))) (fun ww _ => hownF_rep ww _ _) (fun b => hownF_repb) <| aA (α := {x : Nat × List CV // (fun (i : Nat) (l : List CV) => i ≤ a.length ∧ l.length = a.length ∧ (pl l).take i = (pl a).take i) x.1 x.2}) (fun x => (fun (i : Nat) (l : List CV) => (⟨[(0,.v (.slice Aa a.length Ca)),(3,.v (.slice (some ⟨g1,0,none⟩) a.length a.length)),(4,aI (i : Int))],[],[],[bA w.heap.size l,dg w.heap.size 108 25 (.slice (some ⟨g1,0,none⟩) a.length a.length) (l.map ah),av (.slice Aa a.length Ca) 25 (a.map ah),bx a]⟩ : St)) x.1.1 x.1.2) (fun x => (fun (i : Nat) (l : List CV) => a.length - i) x.1.1 x.1.2) ⟨(0,(List.replicate a.length ((⟨⟨0,0,0⟩,0,⟨0,(⟨#[]⟩ : ByteArray),0,false,false,false⟩,⟨0,(⟨#[]⟩ : ByteArray),[],0,false⟩,0,0,⟨0,0,false,false,0,0⟩,0,0⟩,.slice none 0 0) : CV))),⟨Nat.zero_le _,List.length_replicate,rfl⟩⟩ (kPk [0,1,2,3] <| kF 0 0 [0,3,4]) ?_
 rintro ⟨⟨i,l⟩,hi,hll,HK⟩
 try dsimp only
 try dsimp only at hi hll HK
 refine kS <| kQ <| ac [0,3,4,11] [(11,aB (decide ((i : Int) < ((a.length : Nat) : Int))))] <| kC (decide ((i : Int) < ((a.length : Nat) : Int))) (fun h2 => ?_) (fun h2 => ?_)
 have h2p := of_decide_eq_true h2
 have hlt : i < a.length := by simpa using h2
 obtain ⟨x0,hx⟩ : ∃ x,a[i]? = some x := ⟨_,List.getElem?_eq_getElem hlt⟩
 obtain ⟨x,xa,xc,rfl⟩ := db (hh_aV x0 (List.mem_of_getElem? hx))
 have hft_x : cr x := hfit _ (List.mem_of_getElem? hx)
 obtain ⟨hfs_x,hfr_x,hfh_x,hfp_x⟩ := hft_x
 obtain ⟨z,hz⟩ : ∃ z,l[i]? = some z := ⟨_,List.getElem?_eq_getElem (by omega)⟩
 refine kK <| kS <| au <| kG <| ba (kd := .i64) (T := 31) (e := 139) (K := 25) 4 [0,3,4,14,15,16,17] [(14,.v (.slice (some ⟨g1,0,none⟩) a.length a.length)),(15,aI (i : Int)),(16,.v (.slice Aa a.length Ca)),(17,aI (i : Int))] i [iI x.t.ip,iI x.t.port,iI x.t.my,iI x.state,iI x.s.una,.string x.s.data,iI x.s.sent,.bool x.s.fin,.bool x.s.finSent,.bool x.s.done,iI x.r.next,.string x.r.data,.slice xa x.r.held.length xc,iI x.r.fin,.bool x.r.done,iI x.window,iI x.most,iI x.o.mss,iI x.o.scale,.bool x.o.sack,.bool x.o.stamp,iI x.o.val,iI x.o.echo,iI x.timer,iI x.tries] (av (.slice Aa a.length Ca) 25 (a.map ah)) (by kernel_rfl) rfl (by kernel_rfl) rfl rfl (by kernel_rfl) (by kernel_rfl) (by kernel_rfl) (by kernel_rfl) hlt (by simp) (fun w h => h) (fun b h => h) (by simp only [List.getElem?_map,hx]; rfl) ?_
 refine ch 1 [0,3,4,14,15,19] [(19,.v (.agg (co x (cS xa x xc)).toArray))] 101 [.agg (co x (cS xa x xc)).toArray] (some 20) rfl (xc_on (m := x.r.held.length) (F := fun v' => .agg (co x v').toArray) (List.length_map ..) fun ww hf => toConn_c x.t.ip x.t.port x.t.my x.state x.s.una x.s.data x.s.sent x.s.fin x.s.finSent x.s.done x.r.next x.r.data x.r.held (cS xa x xc) x.r.fin x.r.done x.window x.most x.o.mss x.o.scale x.o.sack x.o.stamp x.o.val x.o.echo x.timer x.tries ww ((hf _ m3) (x,.slice xa x.r.held.length xc) (List.mem_of_getElem? hx)) (by omega)) ?_
 rintro ⟨v3a,v3c⟩
 refine kOD 0 [0,3,4,14,15,20] [] (.pointer (some ⟨g1,i * 25,none⟩)) rfl (fun _ _ _ ww hr => act_ix (kd := .i64) (T := 46) (e := 108) (K := 25) (g := g1) (N := a.length) (cap := a.length) i rfl hr.1 rfl rfl (by kernel_rfl) (by kernel_rfl) (by kernel_rfl) (by omega) ww) ?_
 refine xl_hs 0 [0,3,4,20,21] ⟨[(0,.v (.slice Aa a.length Ca)),(3,.v (.slice (some ⟨g1,0,none⟩) a.length a.length)),(4,aI (i : Int)),(20,.v (.agg (co x (cS v3a x v3c)).toArray)),(21,.v (.pointer (some ⟨g1,i * 25,none⟩)))],[],[[iI x.t.ip,iI x.t.port,iI x.t.my,iI x.state,iI x.s.una,.string x.s.data,iI x.s.sent,.bool x.s.fin,.bool x.s.finSent,.bool x.s.done,iI x.r.next,.string x.r.data,.slice xa x.r.held.length xc,iI x.r.fin,.bool x.r.done,iI x.window,iI x.most,iI x.o.mss,iI x.o.scale,.bool x.o.sack,.bool x.o.stamp,iI x.o.val,iI x.o.echo,iI x.timer,iI x.tries]],[cV w.heap.size (cS v3a x v3c) 2 (x.r.held.map pC),bA w.heap.size l,dg w.heap.size 108 25 (.slice (some ⟨g1,0,none⟩) a.length a.length) (l.map ah),av (.slice Aa a.length Ca) 25 (a.map ah),bx a]⟩ (by kernel_rfl) rfl (by kernel_rfl) rfl (by kernel_rfl) (HSg.hs (hs_stR (g := g1) (B := w.heap.size) (e := 108) (K := 25) (N := a.length) (cap := a.length) (rs := (l.map ah)) (rs' := (l.set i (((x,.slice v3a x.r.held.length v3c) : CV))).map ah) (v := (.agg (co x (cS v3a x v3c)).toArray)) (i := 2) (off := i * 25) i 0 [iI z.1.t.ip,iI z.1.t.port,iI z.1.t.my,iI z.1.state,iI z.1.s.una,.string z.1.s.data,iI z.1.s.sent,.bool z.1.s.fin,.bool z.1.s.finSent,.bool z.1.s.done,iI z.1.r.next,.string z.1.r.data,z.2,iI z.1.r.fin,.bool z.1.r.done,iI z.1.window,iI z.1.most,iI z.1.o.mss,iI z.1.o.scale,.bool z.1.o.sack,.bool z.1.o.stamp,iI z.1.o.val,iI z.1.o.echo,iI z.1.timer,iI z.1.tries] (row' := [iI x.t.ip,iI x.t.port,iI x.t.my,iI x.state,iI x.s.una,.string x.s.data,iI x.s.sent,.bool x.s.fin,.bool x.s.finSent,.bool x.s.done,iI x.r.next,.string x.r.data,.slice v3a x.r.held.length v3c,iI x.r.fin,.bool x.r.done,iI x.window,iI x.most,iI x.o.mss,iI x.o.scale,.bool x.o.sack,.bool x.o.stamp,iI x.o.val,iI x.o.echo,iI x.timer,iI x.tries]) rfl rfl (by kernel_rfl) rfl (by kernel_rfl) (by kernel_rfl) (by kernel_rfl) (by kernel_rfl) (Nat.le_refl _) (by simp only [List.getElem?_map,hz]; rfl) (by kernel_rfl) rfl (by rw [List.map_set]; rfl))) ?_
 refine ac [0,3,4] [] <| kG <| bB 3 [0,3,4] [(4,aI (K6.wrap ((i : Int) + 1)))] <| cz [0,3,4] [(4,aI (K6.wrap ((i : Int) + 1)))] [(4,aI ((i : Int) + 1))] (by rw [show (K6.wrap ((i : Int) + 1)) = ((i : Int) + 1) from aL (by omega) (by omega)]) (by kernel_rfl) ?_
 refine am [0,3,4] [(0,.v (.slice Aa a.length Ca)),(3,.v (.slice (some ⟨g1,0,none⟩) a.length a.length)),(4,aI ((i : Int) + 1))] ?_
 exact ⟨⟨(i + 1,(l.set i (((x,.slice v3a x.r.held.length v3c) : CV)))),⟨hlt,(by rw [List.length_set]; exact hll),pl_set (x := (x,_)) HK hx (by omega)⟩⟩,kPk [1,2,0,3,4] <| (wk_turn (fun _ _ _ _ h => hown_set (cs := l) (i := i) (x := (((x,.slice v3a x.r.held.length v3c) : CV))) (by omega) h)).trans <| kF 0 0 [0,3,4],by show (fun (i : Nat) (l : List CV) => a.length - i) (i + 1) (l.set i (((x,.slice v3a x.r.held.length v3c) : CV))) < a.length - i; (dsimp only; omega)⟩
 have h2p := of_decide_eq_false h2
 have hge : i = a.length := by simp at h2; omega
 refine bu <| kQ <| am [2] [(2,.v (.slice (some ⟨g1,0,none⟩) a.length a.length))] <| kR ?_
 have hmc : pl l = pl a := by subst hge; have h1 := HK; rw [← hll] at h1; unfold pl at h1 ⊢; rw [List.take_of_length_le (by simp)] at h1; rw [h1,List.take_of_length_le (by simp; omega)]
 exact ⟨[.slice (some ⟨g1,0,none⟩) a.length a.length],by kernel_rfl,fun w' hb hf ha => xo2 (⟨l,hmc⟩,(((some ⟨g1,0,none⟩) : Option Addr),l.length)) (by show Value.slice _ _ _ = Value.slice _ _ _; rw [hll]) rfl (pW (by have h := hf (dg w.heap.size 108 25 (.slice (some ⟨g1,0,none⟩) a.length a.length) (l.map ah)) (by simp); rw [← hll] at h; exact h) hB) (pH (hf (bA w.heap.size l) (by simp)) hB) (Apart.sub2 ha (i := 1) (j := 0) rfl rfl (by decide) rfl (fun b h => h) (fun b h => hownF_blk h)) hb⟩
theorem ytoTable_c (t : Tab) (t_connsV : Value) (t_waitingV : Value) (w : World) (hl_t_connsV : Sl w t_connsV 25 (t.conns.map ah)) (hh_t_connsV : ∀ x ∈ t.conns, Sl w x.2 2 (x.1.r.held.map pC)) (hl_t_waitingV : Sl w t_waitingV 3 (t.waiting.map a8)) (hfit : ∀ x ∈ t.conns, cr x.1) (hln : t.conns.length ≤ 1048576) (hlw : t.waiting.length ≤ 1048576) (B : Nat) (hB : B ≤ w.heap.size) : Calls Try.prog 27 #[.agg (bY t t_connsV t_waitingV).toArray] w fun e w' => XRs w w' e (α := {cs : List CV // pl cs = pl t.conns} × (Option Addr × Nat) × (Option Addr × Nat)) (fun y => .agg #[.slice y.2.1.1 y.1.1.length y.2.1.2, .slice y.2.2.1 t.waiting.length y.2.2.2]) (fun y => [dg B 108 25 (.slice y.2.1.1 y.1.1.length y.2.1.2) (y.1.1.map ah), bA B y.1.1, cV B (.slice y.2.2.1 t.waiting.length y.2.2.2) 3 (t.waiting.map a8)]) := by
 obtain ⟨Atc,Ctc,hvtc⟩ := hl_t_connsV.form
 rw [List.length_map] at hvtc; subst hvtc
 have hntc := hl_t_connsV.len; rw [List.length_map] at hntc
 have hqtc := Sl.capLe hl_t_connsV
 obtain ⟨Atw,Ctw,hvtw⟩ := hl_t_waitingV.form
 rw [List.length_map] at hvtw; subst hvtw
 have hntw := hl_t_waitingV.len; rw [List.length_map] at hntw
 have hqtw := Sl.capLe hl_t_waitingV
 refine x_callsA (args := [.agg (bY t (.slice Atc t.conns.length Ctc) (.slice Atw t.waiting.length Ctw)).toArray]) (fn := Try.f27) [av (.slice Atc t.conns.length Ctc) 25 (t.conns.map ah),bx t.conns,av (.slice Atw t.waiting.length Ctw) 3 (t.waiting.map a8)] Try.func27 rfl Try.ntmps27 rfl (by simp only [List.mem_cons,List.not_mem_nil,or_false,forall_eq_or_imp,forall_eq]; exact ⟨⟨rfl,hl_t_connsV⟩,⟨rfl,hh_t_connsV⟩,⟨rfl,hl_t_waitingV⟩⟩) ?_
 refine kQ <| cY [1,2] ⟨[(1,.p 0 0),(2,.p 1 0)],[⟨34,bY t (.slice Atc t.conns.length Ctc) (.slice Atw t.waiting.length Ctw)⟩,⟨49,[.slice none 0 0,.slice none 0 0]⟩],[],[av (.slice Atc t.conns.length Ctc) 25 (t.conns.map ah),bx t.conns,av (.slice Atw t.waiting.length Ctw) 3 (t.waiting.map a8)]⟩ <| kQ <| kEA [1,2,3] [(3,.p 2 0)] [⟨49,[.slice none 0 0,.slice none 0 0]⟩] ?_
 refine kQ <| ch 2 [1,2,3,5] [(5,.v (.slice Atc t.conns.length Ctc))] 63 [.slice Atc t.conns.length Ctc] (some 6) rfl (xc_r fun ww hw hf => ytoConnS_c t.conns (.slice Atc t.conns.length Ctc) ww (hf _ m0) (hf _ m1) (by assumption) (by omega) w.heap.size hw) ?_
 rintro ⟨⟨t1l,ht1l⟩,⟨t1a,t1c⟩⟩
 dsimp only
 refine kEU [1,2,3] [] 2 ⟨49,[.slice t1a t1l.length t1c,.slice none 0 0]⟩ <| kQ <| ch 2 [2,3,9] [(9,.v (.slice Atw t.waiting.length Ctw))] 64 [.slice Atw t.waiting.length Ctw] (some 10) rfl (xc_on (m := t.waiting.length) (F := fun v' => v') (List.length_map ..) fun ww hf => toTupleS_c (.slice Atw t.waiting.length Ctw) t.waiting ww (hf _ m4) (by omega)) ?_
 rintro ⟨v2a,v2c⟩
 refine kEU [2,3] [] 2 ⟨49,bY { t with conns := t1l } (.slice t1a t1l.length t1c) (.slice v2a t.waiting.length v2c)⟩ <| kQ <| kEU [2] [(2,.p 1 0)] 1 ⟨49,bY { t with conns := t1l } (.slice t1a t1l.length t1c) (.slice v2a t.waiting.length v2c)⟩ <| kR ?_
 have hmc : pl t1l = pl t.conns := by assumption
 exact ⟨[.agg (bY { t with conns := t1l } (.slice t1a t1l.length t1c) (.slice v2a t.waiting.length v2c)).toArray],by kernel_rfl,fun w' hb hf ha => by exact xo3 (⟨t1l,hmc⟩,(t1a,t1c),(v2a,v2c)) rfl rfl (pW (hf _ m1) hB) (pH (hf _ m2) hB) (pO (hf _ m0) hB) (Apart.sub3 ha [1,2,0] rfl (by decide) rfl rfl rfl (by exact fun b h => h) (fun b h => hownF_blk h) (fun b h => h)) hb⟩
theorem yeqConnS_c (a : List CV) (aV : Value) (b : List CV) (bV : Value) (w : World) (hl_aV : Sl w aV 25 (a.map ah)) (hh_aV : ∀ x ∈ a, Sl w x.2 2 (x.1.r.held.map pC)) (hl_bV : Sl w bV 25 (b.map ah)) (hh_bV : ∀ x ∈ b, Sl w x.2 2 (x.1.r.held.map pC)) (hpl : pl a = pl b) : Calls Try.prog 72 #[aV, bV] w fun e w' => e = .returned (.bool true) ∧ Below w.heap.size w w' := by
 obtain ⟨Aa,Ca,hva⟩ := hl_aV.form
 rw [List.length_map] at hva; subst hva
 have hna := hl_aV.len; rw [List.length_map] at hna
 have hqa := Sl.capLe hl_aV
 obtain ⟨Ab,Cb,hvb⟩ := hl_bV.form
 rw [List.length_map] at hvb; subst hvb
 have hnb := hl_bV.len; rw [List.length_map] at hnb
 have hqb := Sl.capLe hl_bV
 have hlab := pl_len hpl
 refine aj (args := [.slice Aa a.length Ca,.slice Ab b.length Cb]) (fn := Try.f72) [av (.slice Aa a.length Ca) 25 (a.map ah),bx a,av (.slice Ab b.length Cb) 25 (b.map ah),bx b] Try.func72 rfl Try.ntmps72 rfl (by simp only [List.mem_cons,List.not_mem_nil,or_false,forall_eq_or_imp,forall_eq]; exact ⟨⟨rfl,hl_aV⟩,⟨rfl,hh_aV⟩,⟨rfl,hl_bV⟩,⟨rfl,hh_bV⟩⟩) ?_
 refine kQ <| cY [0,1] ⟨[(0,.v (.slice Aa a.length Ca)),(1,.v (.slice Ab b.length Cb))],[],[],[av (.slice Aa a.length Ca) 25 (a.map ah),bx a,av (.slice Ab b.length Cb) 25 (b.map ah),bx b]⟩ <| kS <| kQ <| ac [0,1,10] [(10,aB (((a.length : Nat) : Int) != ((b.length : Nat) : Int)))] ?_
 refine kC (((a.length : Nat) : Int) != ((b.length : Nat) : Int)) (fun h1 => ?_) (fun h1 => ?_)
 have h1p := neT h1
 exfalso; simp at h1; omega
 have h1p := neF h1
 refine kK <| kS <| kQ <| ac [0,1,5] [(5,aI 0)] ?_
 refine au <| aA (α := {x : Nat // (fun (i : Nat) => i ≤ a.length) x}) (fun x => (fun (i : Nat) => (⟨[(0,.v (.slice Aa a.length Ca)),(1,.v (.slice Ab b.length Cb)),(5,aI (i : Int))],[],[],[av (.slice Aa a.length Ca) 25 (a.map ah),bx a,av (.slice Ab b.length Cb) 25 (b.map ah),bx b]⟩ : St)) x.1) (fun x => (fun (i : Nat) => a.length - i) x.1) ⟨(0),Nat.zero_le _⟩ (kF 0 0 [0,1,5]) ?_
 rintro ⟨i,hi⟩
 try dsimp only
 try dsimp only at hi
 refine kS <| kQ <| ac [0,1,5,14] [(14,aB (decide ((i : Int) < ((a.length : Nat) : Int))))] <| kC (decide ((i : Int) < ((a.length : Nat) : Int))) (fun h2 => ?_) (fun h2 => ?_)
 have h2p := of_decide_eq_true h2
 have hlt : i < a.length := by simpa using h2
 obtain ⟨x0,hx⟩ : ∃ x,a[i]? = some x := ⟨_,List.getElem?_eq_getElem hlt⟩
 obtain ⟨x,xa,xc,rfl⟩ := db (hh_aV x0 (List.mem_of_getElem? hx))
 obtain ⟨u,hu⟩ := pl_get hpl hx
 refine kK <| kS <| au <| kS <| ci ?_
 refine cv (K := 25) (j := i) [iI x.t.ip,iI x.t.port,iI x.t.my,iI x.state,iI x.s.una,.string x.s.data,iI x.s.sent,.bool x.s.fin,.bool x.s.finSent,.bool x.s.done,iI x.r.next,.string x.r.data,.slice xa x.r.held.length xc,iI x.r.fin,.bool x.r.done,iI x.window,iI x.most,iI x.o.mss,iI x.o.scale,.bool x.o.sack,.bool x.o.stamp,iI x.o.val,iI x.o.echo,iI x.timer,iI x.tries] (av (.slice Aa a.length Ca) 25 (a.map ah)) (fun _ _ h => h) (by simp) (fun w h => h) (fun b h => h) (by simp only [List.getElem?_map,hx]; rfl) (fun bq3 offq3 hAq3 => ?_)
 refine cv (K := 25) (j := i) [iI x.t.ip,iI x.t.port,iI x.t.my,iI x.state,iI x.s.una,.string x.s.data,iI x.s.sent,.bool x.s.fin,.bool x.s.finSent,.bool x.s.done,iI x.r.next,.string x.r.data,u,iI x.r.fin,.bool x.r.done,iI x.window,iI x.most,iI x.o.mss,iI x.o.scale,.bool x.o.sack,.bool x.o.stamp,iI x.o.val,iI x.o.echo,iI x.timer,iI x.tries] (av (.slice Ab b.length Cb) 25 (b.map ah)) (fun _ _ h => h) (by simp) (fun w h => h) (fun b h => h) (by simp only [List.getElem?_map,hu]; rfl) (fun bq4 offq4 hAq4 => ?_)
 refine bQ [] (by kernel_rfl) (fun ρ σ hq5 => ?_)
 refine dm [0,1,4,5] [22,21,18,17,0,1,5] 6 [(22,aI (i : Int)),(21,.v (.slice Ab b.length Cb)),(18,aI (i : Int)),(17,.v (.slice Aa a.length Ca))] <| bU (kd := .i64) (T := 46) (e := 108) (K := 25) (j := i) (A := Aa) (len := a.length) (cap := Ca) 2 0 _ rfl (by kernel_rfl) (by kernel_rfl) (by kernel_rfl) (fun _ _ h => h) (by kernel_rfl) rfl rfl (by kernel_rfl) (by kernel_rfl) (by kernel_rfl) (by kernel_rfl) hlt hAq3 hq5.1.2 (by kernel_rfl) rfl ?_
 refine dm [3] [20,22,21,0,1,5] 4 [(20,.v (.agg (co x (cS xa x xc)).toArray))] <| bU (kd := .i64) (T := 46) (e := 108) (K := 25) (j := i) (A := Ab) (len := b.length) (cap := Cb) 6 1 _ rfl (by kernel_rfl) (by kernel_rfl) (by kernel_rfl) (fun _ _ h => h) (by kernel_rfl) rfl rfl (by kernel_rfl) (by kernel_rfl) (by kernel_rfl) (by kernel_rfl) (by omega) hAq4 hq5.2 (by kernel_rfl) rfl ?_
 refine dm [7] [24,20,0,1,5] 2 [(24,.v (.agg (co x u).toArray))] <| kA [8] <| kSC 8 107 [.agg (co x (cS xa x xc)).toArray,.agg (co x u).toArray] (some 25) rfl (bw fun ww hf => eqConn_c x.t.ip x.t.port x.t.my x.state x.s.una x.s.data x.s.sent x.s.fin x.s.finSent x.s.done x.r.next x.r.data x.r.held (cS xa x xc) x.r.fin x.r.done x.window x.most x.o.mss x.o.scale x.o.sack x.o.stamp x.o.val x.o.echo x.timer x.tries u ww ((hf _ m1) (x,.slice xa x.r.held.length xc) (List.mem_of_getElem? hx)) ((hf _ m3) (x,u) (List.mem_of_getElem? hu))) ?_
 intro _
 refine dm [9] [26,0,1,5] 0 [(26,aB false)] <| kZ <| kN <| kK <| kG <| bB 3 [0,1,5] [(5,aI (K6.wrap ((i : Int) + 1)))] ?_
 refine cz [0,1,5] [(5,aI (K6.wrap ((i : Int) + 1)))] [(5,aI ((i : Int) + 1))] (by rw [show (K6.wrap ((i : Int) + 1)) = ((i : Int) + 1) from aL (by omega) (by omega)]) (by kernel_rfl) ?_
 refine ac [0,1,5] [] ?_
 exact ⟨⟨(i + 1),hlt⟩,kF 0 0 [0,1,5],by show (fun (i : Nat) => a.length - i) (i + 1) < a.length - i; (dsimp only; omega)⟩
 have h2p := of_decide_eq_false h2
 have hge : i = a.length := by simp at h2; omega
 refine bu <| kQ <| am [4] [(4,aB true)] <| kR ?_
 exact ⟨[.bool true],by kernel_rfl,fun w' hb hf => ⟨rfl,hb⟩⟩
theorem yeqTable_c (a : List CV) (wt : List Tup) (pc : Value) (pw : Value) (b : List CV) (qc : Value) (qw : Value) (w : World) (hl_pc : Sl w pc 25 (a.map ah)) (hh_pc : ∀ x ∈ a, Sl w x.2 2 (x.1.r.held.map pC)) (hl_pw : Sl w pw 3 (wt.map a8)) (hl_qc : Sl w qc 25 (b.map ah)) (hh_qc : ∀ x ∈ b, Sl w x.2 2 (x.1.r.held.map pC)) (hl_qw : Sl w qw 3 (wt.map a8)) (hpl : pl a = pl b) : Calls Try.prog 34 #[.agg #[pc, pw], .agg #[qc, qw]] w fun e w' => e = .returned (.bool true) ∧ Below w.heap.size w w' := by
 obtain ⟨ra_pc,rc_pc,hv_pc⟩ := hl_pc.form
 rw [List.length_map] at hv_pc; subst hv_pc
 have hn_pc := hl_pc.len; rw [List.length_map] at hn_pc
 have hq_pc := Sl.capLe hl_pc
 obtain ⟨ra_pw,rc_pw,hv_pw⟩ := hl_pw.form
 rw [List.length_map] at hv_pw; subst hv_pw
 have hn_pw := hl_pw.len; rw [List.length_map] at hn_pw
 have hq_pw := Sl.capLe hl_pw
 obtain ⟨ra_qc,rc_qc,hv_qc⟩ := hl_qc.form
 rw [List.length_map] at hv_qc; subst hv_qc
 have hn_qc := hl_qc.len; rw [List.length_map] at hn_qc
 have hq_qc := Sl.capLe hl_qc
 obtain ⟨ra_qw,rc_qw,hv_qw⟩ := hl_qw.form
 rw [List.length_map] at hv_qw; subst hv_qw
 have hn_qw := hl_qw.len; rw [List.length_map] at hn_qw
 have hq_qw := Sl.capLe hl_qw
 refine aj (args := [.agg #[.slice ra_pc a.length rc_pc,.slice ra_pw wt.length rc_pw],.agg #[.slice ra_qc b.length rc_qc,.slice ra_qw wt.length rc_qw]]) (fn := Try.f34) [av (.slice ra_pc a.length rc_pc) 25 (a.map ah),bx a,av (.slice ra_pw wt.length rc_pw) 3 (wt.map a8),av (.slice ra_qc b.length rc_qc) 25 (b.map ah),bx b,av (.slice ra_qw wt.length rc_qw) 3 (wt.map a8)] Try.func34 rfl Try.ntmps34 rfl (by simp only [List.mem_cons,List.not_mem_nil,or_false,forall_eq_or_imp,forall_eq]; exact ⟨⟨rfl,hl_pc⟩,⟨rfl,hh_pc⟩,⟨rfl,hl_pw⟩,⟨rfl,hl_qc⟩,⟨rfl,hh_qc⟩,⟨rfl,hl_qw⟩⟩) ?_
 refine kQ <| cY [2,3] ⟨[(2,.p 0 0),(3,.p 1 0)],[⟨49,[.slice ra_pc a.length rc_pc,.slice ra_pw wt.length rc_pw]⟩,⟨49,[.slice ra_qc b.length rc_qc,.slice ra_qw wt.length rc_qw]⟩],[],[av (.slice ra_pc a.length rc_pc) 25 (a.map ah),bx a,av (.slice ra_pw wt.length rc_pw) 3 (wt.map a8),av (.slice ra_qc b.length rc_qc) 25 (b.map ah),bx b,av (.slice ra_qw wt.length rc_qw) 3 (wt.map a8)]⟩ <| kS <| kQ <| ch 4 [2,3,6,8] [(6,.v (.slice ra_pc a.length rc_pc)),(8,.v (.slice ra_qc b.length rc_qc))] 72 [.slice ra_pc a.length rc_pc,.slice ra_qc b.length rc_qc] (some 9) rfl (bw fun ww hf => yeqConnS_c a (.slice ra_pc a.length rc_pc) b (.slice ra_qc b.length rc_qc) ww (hf _ m0) (hf _ m1) (hf _ m3) (hf _ m4) (by first | assumption | (simp only [*]; done))) ?_
 intro _
 refine ac [2,3,10] [(10,aB false)] <| kN <| kK <| kS <| kQ <| kCS 4 [12,14] [(12,.v (.slice ra_pw wt.length rc_pw)),(14,.v (.slice ra_qw wt.length rc_qw))] 73 [.slice ra_pw wt.length rc_pw,.slice ra_qw wt.length rc_qw] (some 15) rfl (bw fun ww hf => eqTupleS_c (.slice ra_pw wt.length rc_pw) (.slice ra_qw wt.length rc_qw) wt ww (hf _ m2) (hf _ m5)) ?_
 intro _
 refine am [16] [(16,aB false)] <| kN <| kK <| kQ <| am [4] [(4,aB true)] ?_
 refine kR ?_
 exact ⟨[.bool true],by kernel_rfl,fun w' hb hf => ⟨rfl,hb⟩⟩
theorem ytoLimits_c (l : Lim) (w : World)  : Calls Try.prog 25 #[.agg (bg l).toArray] w fun e w' => e = .returned (.agg (bg l).toArray) ∧ Below w.heap.size w w' := by
 refine aj (args := [.agg (bg l).toArray]) (fn := Try.f25) [] Try.func25 rfl Try.ntmps25 rfl (by simp) ?_
 refine kQ <| cY [1,2] ⟨[(1,.p 0 0),(2,.p 1 0)],[⟨29,bg l⟩,⟨44,[iI 0,iI 0,iI 0,iI 0]⟩],[],[]⟩ <| kQ <| cY [1,2,3] ⟨[(1,.p 0 0),(2,.p 1 0),(3,.p 2 0)],[⟨29,bg l⟩,⟨44,[iI 0,iI 0,iI 0,iI 0]⟩,⟨44,[iI 0,iI 0,iI 0,iI 0]⟩],[],[]⟩ ?_
 refine kQ <| cY [1,2,3] ⟨[(1,.p 0 0),(2,.p 1 0),(3,.p 2 0)],[⟨29,bg l⟩,⟨44,[iI 0,iI 0,iI 0,iI 0]⟩,⟨44,[iI l.halves,iI 0,iI 0,iI 0]⟩],[],[]⟩ <| kQ <| cY [1,2,3] ⟨[(1,.p 0 0),(2,.p 1 0),(3,.p 2 0)],[⟨29,bg l⟩,⟨44,[iI 0,iI 0,iI 0,iI 0]⟩,⟨44,bg { l with conns := 0,chal := 0 }⟩],[],[]⟩ ?_
 refine kQ <| cY [1,2,3] ⟨[(1,.p 0 0),(2,.p 1 0),(3,.p 2 0)],[⟨29,bg l⟩,⟨44,[iI 0,iI 0,iI 0,iI 0]⟩,⟨44,bg { l with chal := 0 }⟩],[],[]⟩ <| kQ <| cY [2,3] ⟨[(2,.p 1 0),(3,.p 2 0)],[⟨29,bg l⟩,⟨44,[iI 0,iI 0,iI 0,iI 0]⟩,⟨44,bg l⟩],[],[]⟩ ?_
 refine kQ <| cY [2] ⟨[(2,.p 1 0)],[⟨29,bg l⟩,⟨44,bg l⟩,⟨44,bg l⟩],[],[]⟩ <| kR ?_
 exact ⟨[.agg (bg l).toArray],by kernel_rfl,fun w' hb hf => ⟨rfl,hb⟩⟩
theorem yszMacRow_c (a : Mrw) (left : Int) (w : World) (h0 : 0 ≤ left) (h1 : left ≤ 1048576) (hm : a.input.size ≤ maxLen) : Calls Try.prog 120 #[.agg (mrwL a).toArray, iI left] w fun e w' => ∃ r : Int, e = .returned (iI r) ∧ (r = -1 ∨ (0 ≤ r ∧ r ≤ left ∧ (a.input.size : Int) ≤ left)) ∧ Below w.heap.size w w' := by
 unfold maxLen at hm
 refine aj (args := [.agg (mrwL a).toArray,iI left]) (fn := Try.f120) [] Try.func120 rfl Try.ntmps120 rfl (by simp) ?_
 refine kQ <| cY [1,2] ⟨[(1,aI left),(2,.p 0 0)],[⟨157,mrwL a⟩],[],[]⟩ <| kQ <| dn 6 [1] [(1,aI (K6.wrap (left - (a.input.size : Int))))] ?_
 refine cz [1] [(1,aI (K6.wrap (left - (a.input.size : Int))))] [(1,aI (left - (a.input.size : Int)))] (by rw [show (K6.wrap (left - (a.input.size : Int))) = (left - (a.input.size : Int)) from aL (by omega) (by omega)]) (by kernel_rfl) ?_
 refine ac [1] [] <| kS <| kQ <| ac [1,11] [(11,aB (decide ((left - (a.input.size : Int)) < 0)))] ?_
 refine kC (decide ((left - (a.input.size : Int)) < 0)) (fun h1 => ?_) (fun h1 => ?_)
 have h1p := of_decide_eq_true h1
 refine kQ <| am [4] [(4,aI (-1))] <| kR ?_
 exact ⟨[iI (-1)],by kernel_rfl,fun w' hb hf => ⟨_,rfl,.inl rfl,hb⟩⟩
 have h1p := of_decide_eq_false h1
 refine kK <| kQ <| am [4] [(4,aI (left - (a.input.size : Int)))] <| kR ?_
 exact ⟨[iI (left - (a.input.size : Int))],by kernel_rfl,fun w' hb hf => ⟨_,rfl,.inr ⟨by omega,by omega,by omega⟩,hb⟩⟩
theorem all_pre {α : Type} {p : α → Prop} {l : List α} {i : Nat} {x : α} (h : ∀ (j : Nat) (x : α), j < i → l[j]? = some x → p x) (hx : l[i]? = some x) (hp : p x) : ∀ (j : Nat) (x : α), j < i + 1 → l[j]? = some x → p x := fun j y hj hy => by
 rcases Nat.lt_succ_iff_lt_or_eq.1 hj with hj | rfl
 · exact h j y hj hy
 · rw [hx] at hy; simp only [Option.some.injEq] at hy; subst hy; exact hp
theorem all_end {α : Type} {p : α → Prop} {l : List α} {i : Nat} (hi : i = l.length) (h : ∀ (j : Nat) (x : α), j < i → l[j]? = some x → p x) : ∀ x ∈ l, p x := fun x hx => by
 obtain ⟨j,hj⟩ := List.getElem?_of_mem hx
 exact h j x (by rw [hi]; exact (List.getElem?_eq_some_iff.1 hj).1) hj
theorem yszMacRowS_c (a : List Mrw) (aV : Value) (left : Int) (w : World) (hl_aV : Sl w aV 2 (a.map a5)) (h0 : 0 ≤ left) (h1 : left ≤ 1048576) (hm : ∀ p ∈ a, p.input.size ≤ maxLen) : Calls Try.prog 97 #[aV, iI left] w fun e w' => ∃ r : Int, e = .returned (iI r) ∧ (r = -1 ∨ (0 ≤ r ∧ r ≤ left ∧ (a.length : Int) ≤ left ∧ ∀ p ∈ a, (p.input.size : Int) ≤ left)) ∧ Below w.heap.size w w' := by
 obtain ⟨Aa,Ca,hva⟩ := hl_aV.form
 rw [List.length_map] at hva; subst hva
 have hna := hl_aV.len; rw [List.length_map] at hna
 have hqa := Sl.capLe hl_aV
 refine aj (args := [.slice Aa a.length Ca,iI left]) (fn := Try.f97) [av (.slice Aa a.length Ca) 2 (a.map a5)] Try.func97 rfl Try.ntmps97 rfl (by simp only [List.mem_cons,List.not_mem_nil,or_false,forall_eq_or_imp,forall_eq]; exact ⟨rfl,hl_aV⟩) ?_
 refine kQ <| cY [0,1] ⟨[(0,.v (.slice Aa a.length Ca)),(1,aI left)],[],[],[av (.slice Aa a.length Ca) 2 (a.map a5)]⟩ <| kQ <| bB 5 [0,1] [(1,aI (K6.wrap (left - ((a.length : Nat) : Int))))] ?_
 refine cz [0,1] [(1,aI (K6.wrap (left - ((a.length : Nat) : Int))))] [(1,aI (left - ((a.length : Nat) : Int)))] (by rw [show (K6.wrap (left - ((a.length : Nat) : Int))) = (left - ((a.length : Nat) : Int)) from aL (by omega) (by omega)]) (by kernel_rfl) ?_
 refine ac [0,1] [] <| kS <| kQ <| ac [0,1,11] [(11,aB (decide ((left - ((a.length : Nat) : Int)) < 0)))] ?_
 refine kC (decide ((left - ((a.length : Nat) : Int)) < 0)) (fun h1 => ?_) (fun h1 => ?_)
 have h1p := of_decide_eq_true h1
 refine kQ <| am [4] [(4,aI (-1))] <| kR ?_
 exact ⟨[iI (-1)],by kernel_rfl,fun w' hb hf => ⟨_,rfl,.inl rfl,hb⟩⟩
 have h1p := of_decide_eq_false h1
 refine kK <| kS <| kQ <| ac [0,1,5] [(5,aI 0)] ?_
 refine au <| aA (α := {x : Nat × Int // (fun (i : Nat) (z : Int) => i ≤ a.length ∧ 0 ≤ z ∧ z ≤ left - (a.length : Int) ∧ ∀ (j : Nat) (x : Mrw),j < i → a[j]? = some x → (x.input.size : Int) ≤ left) x.1 x.2}) (fun x => (fun (i : Nat) (z : Int) => (⟨[(0,.v (.slice Aa a.length Ca)),(1,aI z),(5,aI (i : Int))],[],[],[av (.slice Aa a.length Ca) 2 (a.map a5)]⟩ : St)) x.1.1 x.1.2) (fun x => (fun (i : Nat) (z : Int) => a.length - i) x.1.1 x.1.2) ⟨(0,left - ((a.length : Nat) : Int)),⟨Nat.zero_le _,(by first | omega | (simp at *; omega)),(by omega),(fun j x hj => by omega)⟩⟩ (kF 0 0 [0,1,5]) ?_
 rintro ⟨⟨i,z⟩,hi,hz0,hz1,HK⟩
 try dsimp only
 try dsimp only at hi hz0 hz1 HK
 refine kS <| kQ <| ac [0,1,5,15] [(15,aB (decide ((i : Int) < ((a.length : Nat) : Int))))] <| kC (decide ((i : Int) < ((a.length : Nat) : Int))) (fun h2 => ?_) (fun h2 => ?_)
 have h2p := of_decide_eq_true h2
 have hlt : i < a.length := by simpa using h2
 obtain ⟨x,hx⟩ : ∃ x,a[i]? = some x := ⟨_,List.getElem?_eq_getElem hlt⟩
 have hmx := hm _ (List.mem_of_getElem? hx)
 refine kK <| kS <| au <| kQ <| ba (kd := .i64) (T := 23) (e := 157) (K := 2) 2 [0,1,5,18,19] [(18,.v (.slice Aa a.length Ca)),(19,aI (i : Int))] i [.string x.input,iI x.value] (av (.slice Aa a.length Ca) 2 (a.map a5)) (by kernel_rfl) rfl (by kernel_rfl) rfl rfl (by kernel_rfl) (by kernel_rfl) (by kernel_rfl) (by kernel_rfl) hlt (by simp) (fun w h => h) (fun b h => h) (by simp only [List.getElem?_map,hx]; rfl) ?_
 refine ch 2 [0,1,5,21,22] [(21,.v (.agg (mrwL x).toArray)),(22,aI z)] 120 [.agg (mrwL x).toArray,iI z] (some 23) rfl (xc_e (α := Int) (F := fun y => iI y) (p := fun r => r = -1 ∨ (0 ≤ r ∧ r ≤ z ∧ (x.input.size : Int) ≤ z)) fun ww hf => yszMacRow_c x z ww (by omega) (by omega) hmx) ?_
 rintro ⟨r3,hr3⟩
 refine ac [0,1,5] [(1,aI r3)] <| kQ <| ac [0,1,5,25] [(25,aB (decide (r3 < 0)))] <| kC (decide (r3 < 0)) (fun h4 => ?_) (fun h4 => ?_)
 have h4p := of_decide_eq_true h4
 refine kQ <| am [4] [(4,aI (-1))] <| kR ?_
 exact ⟨[iI (-1)],by kernel_rfl,fun w' hb hf => ⟨_,rfl,.inl rfl,hb⟩⟩
 have h4p := of_decide_eq_false h4
 rcases hr3 with hr3 | ⟨hr3a,hr3b,hr3c⟩
 · omega
 refine kK <| kG <| dn 3 [0,1,5] [(0,.v (.slice Aa a.length Ca)),(1,aI r3),(5,aI (K6.wrap ((i : Int) + 1)))] <| xl_eqS (t' := [(0,.v (.slice Aa a.length Ca)),(1,aI r3),(5,aI ((i : Int) + 1))]) (by rw [show (K6.wrap ((i : Int) + 1)) = ((i : Int) + 1) from aL (by omega) (by omega)]) ?_
 refine ac [0,1,5] [] ?_
 exact ⟨⟨(i + 1,r3),⟨hlt,by omega,by omega,all_pre HK hx (by omega)⟩⟩,kF 0 0 [0,1,5],by show (fun (i : Nat) (z : Int) => a.length - i) (i + 1) r3 < a.length - i; (dsimp only; omega)⟩
 have h2p := of_decide_eq_false h2
 have hge : i = a.length := by simp at h2; omega
 refine bu <| kQ <| am [4] [(4,aI z)] <| kR ?_
 exact ⟨[iI z],by kernel_rfl,fun w' hb hf => ⟨_,rfl,.inr ⟨by omega,by omega,by omega,all_end (p := fun x : Mrw => (x.input.size : Int) ≤ left) hge HK⟩,hb⟩⟩
theorem yszMac_c (m : Mac) (m_rowsV : Value) (left : Int) (w : World) (hl_m_rowsV : Sl w m_rowsV 2 (m.rows.map a5)) (h0 : 0 ≤ left) (h1 : left ≤ 1048576) (hm_m_rowsV : ∀ p ∈ m.rows, p.input.size ≤ maxLen) : Calls Try.prog 56 #[.agg (aG m m_rowsV).toArray, iI left] w fun e w' => ∃ r : Int, e = .returned (iI r) ∧ (r = -1 ∨ (0 ≤ r ∧ r ≤ left ∧ (m.rows.length : Int) ≤ left ∧ ∀ p ∈ m.rows, (p.input.size : Int) ≤ left)) ∧ Below w.heap.size w w' := by
 obtain ⟨Amr,Cmr,hvmr⟩ := hl_m_rowsV.form
 rw [List.length_map] at hvmr; subst hvmr
 have hnmr := hl_m_rowsV.len; rw [List.length_map] at hnmr
 have hqmr := Sl.capLe hl_m_rowsV
 refine aj (args := [.agg (aG m (.slice Amr m.rows.length Cmr)).toArray,iI left]) (fn := Try.f56) [av (.slice Amr m.rows.length Cmr) 2 (m.rows.map a5)] Try.func56 rfl Try.ntmps56 rfl (by simp only [List.mem_cons,List.not_mem_nil,or_false,forall_eq_or_imp,forall_eq]; exact ⟨rfl,hl_m_rowsV⟩) ?_
 refine kQ <| cY [1,2] ⟨[(1,aI left),(2,.p 0 0)],[⟨25,aG m (.slice Amr m.rows.length Cmr)⟩],[],[av (.slice Amr m.rows.length Cmr) 2 (m.rows.map a5)]⟩ <| kQ <| ch 3 [1,6,7] [(6,.v (.slice Amr m.rows.length Cmr)),(7,aI left)] 97 [.slice Amr m.rows.length Cmr,iI left] (some 8) rfl (xc_e (α := Int) (F := fun y => iI y) (p := fun r => r = -1 ∨ (0 ≤ r ∧ r ≤ left ∧ (m.rows.length : Int) ≤ left ∧ ∀ p ∈ m.rows,(p.input.size : Int) ≤ left)) fun ww hf => yszMacRowS_c m.rows (.slice Amr m.rows.length Cmr) left ww (hf _ m0) (by omega) (by omega) hm_m_rowsV) ?_
 rintro ⟨r1,hr1⟩
 refine am [1] [(1,aI r1)] <| kS <| kQ <| ac [1,10] [(10,aB (decide (r1 < 0)))] ?_
 refine kC (decide (r1 < 0)) (fun h2 => ?_) (fun h2 => ?_)
 have h2p := of_decide_eq_true h2
 refine kQ <| am [4] [(4,aI (-1))] <| kR ?_
 exact ⟨[iI (-1)],by kernel_rfl,fun w' hb hf => ⟨_,rfl,.inl rfl,hb⟩⟩
 have h2p := of_decide_eq_false h2
 rcases hr1 with hr1 | ⟨hr1a,hr1b,hr1n,hr1c⟩
 · omega
 refine kK <| kQ <| am [4] [(4,aI r1)] <| kR ?_
 exact ⟨[iI r1],by kernel_rfl,fun w' hb hf => ⟨_,rfl,.inr ⟨by omega,by omega,by omega,hr1c⟩,hb⟩⟩
theorem yszKeys_c (k : Kys) (k_now_rowsV : Value) (k_before_rowsV : Value) (left : Int) (w : World) (hl_k_now_rowsV : Sl w k_now_rowsV 2 (k.now.rows.map a5)) (hl_k_before_rowsV : Sl w k_before_rowsV 2 (k.before.rows.map a5)) (h0 : 0 ≤ left) (h1 : left ≤ 1048576) (hm_k_now_rowsV : ∀ p ∈ k.now.rows, p.input.size ≤ maxLen) (hm_k_before_rowsV : ∀ p ∈ k.before.rows, p.input.size ≤ maxLen) : Calls Try.prog 18 #[.agg (cn k k_now_rowsV k_before_rowsV).toArray, iI left] w fun e w' => ∃ r : Int, e = .returned (iI r) ∧ (r = -1 ∨ (0 ≤ r ∧ r ≤ left ∧ (k.now.rows.length : Int) ≤ left ∧ (∀ p ∈ k.now.rows, (p.input.size : Int) ≤ left) ∧ (k.before.rows.length : Int) ≤ left ∧ (∀ p ∈ k.before.rows, (p.input.size : Int) ≤ left))) ∧ Below w.heap.size w w' := by
 obtain ⟨Aknr,Cknr,hvknr⟩ := hl_k_now_rowsV.form
 rw [List.length_map] at hvknr; subst hvknr
 have hnknr := hl_k_now_rowsV.len; rw [List.length_map] at hnknr
 have hqknr := Sl.capLe hl_k_now_rowsV
 obtain ⟨Akbr,Ckbr,hvkbr⟩ := hl_k_before_rowsV.form
 rw [List.length_map] at hvkbr; subst hvkbr
 have hnkbr := hl_k_before_rowsV.len; rw [List.length_map] at hnkbr
 have hqkbr := Sl.capLe hl_k_before_rowsV
 refine aj (args := [.agg (cn k (.slice Aknr k.now.rows.length Cknr) (.slice Akbr k.before.rows.length Ckbr)).toArray,iI left]) (fn := Try.f18) [av (.slice Aknr k.now.rows.length Cknr) 2 (k.now.rows.map a5),av (.slice Akbr k.before.rows.length Ckbr) 2 (k.before.rows.map a5)] Try.func18 rfl Try.ntmps18 rfl (by simp only [List.mem_cons,List.not_mem_nil,or_false,forall_eq_or_imp,forall_eq]; exact ⟨⟨rfl,hl_k_now_rowsV⟩,⟨rfl,hl_k_before_rowsV⟩⟩) ?_
 refine kQ <| cY [1,2] ⟨[(1,aI left),(2,.p 0 0)],[⟨27,cn k (.slice Aknr k.now.rows.length Cknr) (.slice Akbr k.before.rows.length Ckbr)⟩],[],[av (.slice Aknr k.now.rows.length Cknr) 2 (k.now.rows.map a5),av (.slice Akbr k.before.rows.length Ckbr) 2 (k.before.rows.map a5)]⟩ <| kQ <| ch 3 [1,2,6,7] [(6,.v (.agg (aG k.now (.slice Aknr k.now.rows.length Cknr)).toArray)),(7,aI left)] 56 [.agg (aG k.now (.slice Aknr k.now.rows.length Cknr)).toArray,iI left] (some 8) rfl (xc_e (α := Int) (F := fun y => iI y) (p := fun r => r = -1 ∨ (0 ≤ r ∧ r ≤ left ∧ (k.now.rows.length : Int) ≤ left ∧ ∀ p ∈ k.now.rows,(p.input.size : Int) ≤ left)) fun ww hf => yszMac_c k.now (.slice Aknr k.now.rows.length Cknr) left ww (hf _ m0) (by omega) (by omega) hm_k_now_rowsV) ?_
 rintro ⟨r1,hr1⟩
 refine ac [1,2] [(1,aI r1)] <| kS <| kQ <| ac [1,2,10] [(10,aB (decide (r1 < 0)))] ?_
 refine kC (decide (r1 < 0)) (fun h2 => ?_) (fun h2 => ?_)
 have h2p := of_decide_eq_true h2
 refine kQ <| am [4] [(4,aI (-1))] <| kR ?_
 exact ⟨[iI (-1)],by kernel_rfl,fun w' hb hf => ⟨_,rfl,.inl rfl,hb⟩⟩
 have h2p := of_decide_eq_false h2
 rcases hr1 with hr1 | ⟨hr1a,hr1b,hr1n,hr1c⟩
 · omega
 refine kK <| kQ <| ch 3 [1,12,13] [(12,.v (.agg (aG k.before (.slice Akbr k.before.rows.length Ckbr)).toArray)),(13,aI r1)] 56 [.agg (aG k.before (.slice Akbr k.before.rows.length Ckbr)).toArray,iI r1] (some 14) rfl (xc_e (α := Int) (F := fun y => iI y) (p := fun r => r = -1 ∨ (0 ≤ r ∧ r ≤ r1 ∧ (k.before.rows.length : Int) ≤ r1 ∧ ∀ p ∈ k.before.rows,(p.input.size : Int) ≤ r1)) fun ww hf => yszMac_c k.before (.slice Akbr k.before.rows.length Ckbr) r1 ww (hf _ m1) (by omega) (by omega) hm_k_before_rowsV) ?_
 rintro ⟨r3,hr3⟩
 refine am [1] [(1,aI r3)] <| kS <| kQ <| ac [1,16] [(16,aB (decide (r3 < 0)))] ?_
 refine kC (decide (r3 < 0)) (fun h4 => ?_) (fun h4 => ?_)
 have h4p := of_decide_eq_true h4
 refine kQ <| am [4] [(4,aI (-1))] <| kR ?_
 exact ⟨[iI (-1)],by kernel_rfl,fun w' hb hf => ⟨_,rfl,.inl rfl,hb⟩⟩
 have h4p := of_decide_eq_false h4
 rcases hr3 with hr3 | ⟨hr3a,hr3b,hr3n,hr3c⟩
 · omega
 refine kK <| kQ <| am [4] [(4,aI r3)] <| kR ?_
 exact ⟨[iI r3],by kernel_rfl,fun w' hb hf => ⟨_,rfl,.inr ⟨by omega,by omega,by omega,fun p hp => by have := hr1c p hp; omega,by omega,fun p hp => by have := hr3c p hp; omega⟩,hb⟩⟩
theorem yszDoor_c (d : Dor) (d_keys_now_rowsV : Value) (d_keys_before_rowsV : Value) (d_halvesV : Value) (d_table_connsV : Value) (d_table_waitingV : Value) (left : Int) (w : World) (hl_d_keys_now_rowsV : Sl w d_keys_now_rowsV 2 (d.keys.now.rows.map a5)) (hl_d_keys_before_rowsV : Sl w d_keys_before_rowsV 2 (d.keys.before.rows.map a5)) (hl_d_halvesV : Sl w d_halvesV 13 (d.halves.map a9)) (hl_d_table_connsV : Sl w d_table_connsV 25 (d.table.conns.map ah)) (hh_d_table_connsV : ∀ x ∈ d.table.conns, Sl w x.2 2 (x.1.r.held.map pC)) (hl_d_table_waitingV : Sl w d_table_waitingV 3 (d.table.waiting.map a8)) (h0 : 0 ≤ left) (h1 : left ≤ 1048576) (hm_d_keys_now_rowsV : ∀ p ∈ d.keys.now.rows, p.input.size ≤ maxLen) (hm_d_keys_before_rowsV : ∀ p ∈ d.keys.before.rows, p.input.size ≤ maxLen) (hm_d_table_connsV : ∀ x ∈ d.table.conns, conMax x.1) : Calls Try.prog 6 #[.agg (cy d d_keys_now_rowsV d_keys_before_rowsV d_halvesV d_table_connsV d_table_waitingV).toArray, iI left] w fun e w' => ∃ r : Int, e = .returned (iI r) ∧ (r = -1 ∨ (r ≤ left ∧ 0 ≤ r ∧ (d.keys.now.rows.length : Int) ≤ 1048576 ∧ (∀ p ∈ d.keys.now.rows, (p.input.size : Int) ≤ 1048576) ∧ (d.keys.before.rows.length : Int) ≤ 1048576 ∧ (∀ p ∈ d.keys.before.rows, (p.input.size : Int) ≤ 1048576) ∧ d.halves.length ≤ 1048576 ∧ (∀ x ∈ d.table.conns, cr x.1) ∧ d.table.conns.length ≤ 1048576 ∧ d.table.waiting.length ≤ 1048576)) ∧ Below w.heap.size w w' := by
 obtain ⟨Adknr,Cdknr,hvdknr⟩ := hl_d_keys_now_rowsV.form
 rw [List.length_map] at hvdknr; subst hvdknr
 have hndknr := hl_d_keys_now_rowsV.len; rw [List.length_map] at hndknr
 have hqdknr := Sl.capLe hl_d_keys_now_rowsV
 obtain ⟨Adkbr,Cdkbr,hvdkbr⟩ := hl_d_keys_before_rowsV.form
 rw [List.length_map] at hvdkbr; subst hvdkbr
 have hndkbr := hl_d_keys_before_rowsV.len; rw [List.length_map] at hndkbr
 have hqdkbr := Sl.capLe hl_d_keys_before_rowsV
 obtain ⟨Adh,Cdh,hvdh⟩ := hl_d_halvesV.form
 rw [List.length_map] at hvdh; subst hvdh
 have hndh := hl_d_halvesV.len; rw [List.length_map] at hndh
 have hqdh := Sl.capLe hl_d_halvesV
 obtain ⟨Adtc,Cdtc,hvdtc⟩ := hl_d_table_connsV.form
 rw [List.length_map] at hvdtc; subst hvdtc
 have hndtc := hl_d_table_connsV.len; rw [List.length_map] at hndtc
 have hqdtc := Sl.capLe hl_d_table_connsV
 obtain ⟨Adtw,Cdtw,hvdtw⟩ := hl_d_table_waitingV.form
 rw [List.length_map] at hvdtw; subst hvdtw
 have hndtw := hl_d_table_waitingV.len; rw [List.length_map] at hndtw
 have hqdtw := Sl.capLe hl_d_table_waitingV
 refine aj (args := [.agg (cy d (.slice Adknr d.keys.now.rows.length Cdknr) (.slice Adkbr d.keys.before.rows.length Cdkbr) (.slice Adh d.halves.length Cdh) (.slice Adtc d.table.conns.length Cdtc) (.slice Adtw d.table.waiting.length Cdtw)).toArray,iI left]) (fn := Try.f6) [av (.slice Adknr d.keys.now.rows.length Cdknr) 2 (d.keys.now.rows.map a5),av (.slice Adkbr d.keys.before.rows.length Cdkbr) 2 (d.keys.before.rows.map a5),av (.slice Adh d.halves.length Cdh) 13 (d.halves.map a9),av (.slice Adtc d.table.conns.length Cdtc) 25 (d.table.conns.map ah),bx d.table.conns,av (.slice Adtw d.table.waiting.length Cdtw) 3 (d.table.waiting.map a8)] Try.func6 rfl Try.ntmps6 rfl (by simp only [List.mem_cons,List.not_mem_nil,or_false,forall_eq_or_imp,forall_eq]; exact ⟨⟨rfl,hl_d_keys_now_rowsV⟩,⟨rfl,hl_d_keys_before_rowsV⟩,⟨rfl,hl_d_halvesV⟩,⟨rfl,hl_d_table_connsV⟩,⟨rfl,hh_d_table_connsV⟩,⟨rfl,hl_d_table_waitingV⟩⟩) ?_
 refine kQ <| cY [1,2] ⟨[(1,aI left),(2,.p 0 0)],[⟨36,cy d (.slice Adknr d.keys.now.rows.length Cdknr) (.slice Adkbr d.keys.before.rows.length Cdkbr) (.slice Adh d.halves.length Cdh) (.slice Adtc d.table.conns.length Cdtc) (.slice Adtw d.table.waiting.length Cdtw)⟩],[],[av (.slice Adknr d.keys.now.rows.length Cdknr) 2 (d.keys.now.rows.map a5),av (.slice Adkbr d.keys.before.rows.length Cdkbr) 2 (d.keys.before.rows.map a5),av (.slice Adh d.halves.length Cdh) 13 (d.halves.map a9),av (.slice Adtc d.table.conns.length Cdtc) 25 (d.table.conns.map ah),bx d.table.conns,av (.slice Adtw d.table.waiting.length Cdtw) 3 (d.table.waiting.map a8)]⟩ <| kQ <| ch 3 [1,2,6,7] [(6,.v (.agg (cn d.keys (.slice Adknr d.keys.now.rows.length Cdknr) (.slice Adkbr d.keys.before.rows.length Cdkbr)).toArray)),(7,aI left)] 18 [.agg (cn d.keys (.slice Adknr d.keys.now.rows.length Cdknr) (.slice Adkbr d.keys.before.rows.length Cdkbr)).toArray,iI left] (some 8) rfl (xc_e (α := Int) (F := fun y => iI y) (p := fun r => r = -1 ∨ (0 ≤ r ∧ r ≤ left ∧ (d.keys.now.rows.length : Int) ≤ left ∧ (∀ p ∈ d.keys.now.rows,(p.input.size : Int) ≤ left) ∧ (d.keys.before.rows.length : Int) ≤ left ∧ (∀ p ∈ d.keys.before.rows,(p.input.size : Int) ≤ left))) fun ww hf => yszKeys_c d.keys (.slice Adknr d.keys.now.rows.length Cdknr) (.slice Adkbr d.keys.before.rows.length Cdkbr) left ww (hf _ m0) (hf _ m1) (by omega) (by omega) hm_d_keys_now_rowsV hm_d_keys_before_rowsV) ?_
 rintro ⟨r1,hr1⟩
 refine ac [1,2] [(1,aI r1)] <| kS <| kQ <| ac [1,2,10] [(10,aB (decide (r1 < 0)))] ?_
 refine kC (decide (r1 < 0)) (fun h2 => ?_) (fun h2 => ?_)
 have h2p := of_decide_eq_true h2
 refine kQ <| am [4] [(4,aI (-1))] <| kR ?_
 exact ⟨[iI (-1)],by kernel_rfl,fun w' hb hf => ⟨_,rfl,.inl rfl,hb⟩⟩
 have h2p := of_decide_eq_false h2
 rcases hr1 with hr1 | ⟨hr1a,hr1b,hr1n,hr1m,hr1o,hr1p⟩
 · omega
 refine kK <| kQ <| ch 3 [1,2,12,13] [(12,.v (.slice Adh d.halves.length Cdh)),(13,aI r1)] 19 [.slice Adh d.halves.length Cdh,iI r1] (some 14) rfl (cw fun ww hf => szHalfS_c (.slice Adh d.halves.length Cdh) d.halves r1 ww (hf _ m2) (by omega) (by omega)) ?_
 intro _
 refine ac [1,2] [(1,aI (if (r1 : Int) < d.halves.length then -1 else (r1 : Int) - d.halves.length))] <| kS <| kQ <| ac [1,2,16] [(16,aB (decide ((if (r1 : Int) < d.halves.length then -1 else (r1 : Int) - d.halves.length) < 0)))] ?_
 refine kC (decide ((if (r1 : Int) < d.halves.length then -1 else (r1 : Int) - d.halves.length) < 0)) (fun h3 => ?_) (fun h3 => ?_)
 have h3p := of_decide_eq_true h3
 refine kQ <| am [4] [(4,aI (-1))] <| kR ?_
 exact ⟨[iI (-1)],by kernel_rfl,fun w' hb hf => ⟨_,rfl,.inl rfl,hb⟩⟩
 have h3p := of_decide_eq_false h3
 have hsz_d_halves : d.halves.length ≤ 1048576 := by by_cases hh : (r1 : Int) < (d.halves.length : Int) <;> simp [hh] at h3; omega
 refine kK <| kQ <| ch 3 [1,18,19] [(18,.v (.agg (bY d.table (.slice Adtc d.table.conns.length Cdtc) (.slice Adtw d.table.waiting.length Cdtw)).toArray)),(19,aI (if (r1 : Int) < d.halves.length then -1 else (r1 : Int) - d.halves.length))] 20 [.agg (bY d.table (.slice Adtc d.table.conns.length Cdtc) (.slice Adtw d.table.waiting.length Cdtw)).toArray,iI (if (r1 : Int) < d.halves.length then -1 else (r1 : Int) - d.halves.length)] (some 20) rfl (xc_e (α := Int) (F := fun y => iI y) (p := fun r => r = -1 ∨ (0 ≤ r ∧ r ≤ (if (r1 : Int) < d.halves.length then -1 else (r1 : Int) - d.halves.length) ∧ (d.table.conns.length : Int) ≤ (if (r1 : Int) < d.halves.length then -1 else (r1 : Int) - d.halves.length) ∧ (∀ x ∈ d.table.conns,ConFit (if (r1 : Int) < d.halves.length then -1 else (r1 : Int) - d.halves.length) x.1) ∧ (d.table.waiting.length : Int) ≤ (if (r1 : Int) < d.halves.length then -1 else (r1 : Int) - d.halves.length))) fun ww hf => yszTable_c d.table.conns d.table.waiting (.slice Adtc d.table.conns.length Cdtc) (.slice Adtw d.table.waiting.length Cdtw) (if (r1 : Int) < d.halves.length then -1 else (r1 : Int) - d.halves.length) ww (hf _ m3) (hf _ m4) (hf _ m5) (by omega) (by omega) hm_d_table_connsV) ?_
 rintro ⟨r4,hr4⟩
 refine am [1] [(1,aI r4)] <| kS <| kQ <| ac [1,22] [(22,aB (decide (r4 < 0)))] ?_
 refine kC (decide (r4 < 0)) (fun h5 => ?_) (fun h5 => ?_)
 have h5p := of_decide_eq_true h5
 refine kQ <| am [4] [(4,aI (-1))] <| kR ?_
 exact ⟨[iI (-1)],by kernel_rfl,fun w' hb hf => ⟨_,rfl,.inl rfl,hb⟩⟩
 have h5p := of_decide_eq_false h5
 rcases hr4 with hr4 | ⟨hr4a,hr4b,hr4n,hr4c,hr4w⟩
 · omega
 have hfit_d_table_connsV : ∀ x ∈ d.table.conns,cr x.1 := fun x hx => (hr4c x hx).fit (by omega)
 have hln_d_table_connsV : d.table.conns.length ≤ 1048576 := by omega
 have hlw_d_table_connsV : d.table.waiting.length ≤ 1048576 := by omega
 refine kK <| kQ <| am [4] [(4,aI r4)] <| kR ?_
 exact ⟨[iI r4],by kernel_rfl,fun w' hb hf => ⟨_,rfl,.inr ⟨by omega,by omega,by omega,fun p hp => by have := hr1m p hp; omega,by omega,fun p hp => by have := hr1p p hp; omega,by omega,hfit_d_table_connsV,hln_d_table_connsV,hlw_d_table_connsV⟩,hb⟩⟩
theorem ytoMac_c (m : Mac) (m_rowsV : Value) (w : World) (hl_m_rowsV : Sl w m_rowsV 2 (m.rows.map a5)) (hrn : m.rows.length ≤ 1048576) (B : Nat) (hB : B ≤ w.heap.size) : Calls Try.prog 61 #[.agg (aG m m_rowsV).toArray] w fun e w' => XRs w w' e (α := Option Addr × Nat) (fun y => .agg (aG m (.slice y.1 m.rows.length y.2)).toArray) (fun y => [cV B (.slice y.1 m.rows.length y.2) 2 (m.rows.map a5)]) := by
 obtain ⟨Amr,Cmr,hvmr⟩ := hl_m_rowsV.form
 rw [List.length_map] at hvmr; subst hvmr
 have hnmr := hl_m_rowsV.len; rw [List.length_map] at hnmr
 have hqmr := Sl.capLe hl_m_rowsV
 refine x_callsA (args := [.agg (aG m (.slice Amr m.rows.length Cmr)).toArray]) (fn := Try.f61) [av (.slice Amr m.rows.length Cmr) 2 (m.rows.map a5)] Try.func61 rfl Try.ntmps61 rfl (by simp only [List.mem_cons,List.not_mem_nil,or_false,forall_eq_or_imp,forall_eq]; exact ⟨rfl,hl_m_rowsV⟩) ?_
 refine kQ <| cY [1,2] ⟨[(1,.p 0 0),(2,.p 1 0)],[⟨25,aG m (.slice Amr m.rows.length Cmr)⟩,⟨41,[.bool false,.int .u64 0,.int .u64 0,.slice none 0 0]⟩],[],[av (.slice Amr m.rows.length Cmr) 2 (m.rows.map a5)]⟩ <| kQ <| cY [1,2,3] ⟨[(1,.p 0 0),(2,.p 1 0),(3,.p 2 0)],[⟨25,aG m (.slice Amr m.rows.length Cmr)⟩,⟨41,[.bool false,.int .u64 0,.int .u64 0,.slice none 0 0]⟩,⟨41,[.bool false,.int .u64 0,.int .u64 0,.slice none 0 0]⟩],[],[av (.slice Amr m.rows.length Cmr) 2 (m.rows.map a5)]⟩ ?_
 refine kQ <| cY [1,2,3] ⟨[(1,.p 0 0),(2,.p 1 0),(3,.p 2 0)],[⟨25,aG m (.slice Amr m.rows.length Cmr)⟩,⟨41,[.bool false,.int .u64 0,.int .u64 0,.slice none 0 0]⟩,⟨41,[.bool m.use,.int .u64 0,.int .u64 0,.slice none 0 0]⟩],[],[av (.slice Amr m.rows.length Cmr) 2 (m.rows.map a5)]⟩ <| kQ <| cY [1,2,3] ⟨[(1,.p 0 0),(2,.p 1 0),(3,.p 2 0)],[⟨25,aG m (.slice Amr m.rows.length Cmr)⟩,⟨41,[.bool false,.int .u64 0,.int .u64 0,.slice none 0 0]⟩,⟨41,[.bool m.use,.int .u64 m.k,.int .u64 0,.slice none 0 0]⟩],[],[av (.slice Amr m.rows.length Cmr) 2 (m.rows.map a5)]⟩ ?_
 refine kQ <| cY [1,2,3] ⟨[(1,.p 0 0),(2,.p 1 0),(3,.p 2 0)],[⟨25,aG m (.slice Amr m.rows.length Cmr)⟩,⟨41,[.bool false,.int .u64 0,.int .u64 0,.slice none 0 0]⟩,⟨41,[.bool m.use,.int .u64 m.k,.int .u64 m.l,.slice none 0 0]⟩],[],[av (.slice Amr m.rows.length Cmr) 2 (m.rows.map a5)]⟩ <| kQ <| kCS 2 [2,3,14] [(2,.p 1 0),(3,.p 2 0),(14,.v (.slice Amr m.rows.length Cmr))] 100 [.slice Amr m.rows.length Cmr] (some 15) rfl (xc_on (m := m.rows.length) (F := fun v' => v') (List.length_map ..) fun ww hf => toMacRowS_c (.slice Amr m.rows.length Cmr) m.rows ww (hf _ m0) (by omega)) ?_
 rintro ⟨v1a,v1c⟩
 refine cY [2,3] ⟨[(2,.p 1 0),(3,.p 2 0)],[⟨25,aG m (.slice Amr m.rows.length Cmr)⟩,⟨41,[.bool false,.int .u64 0,.int .u64 0,.slice none 0 0]⟩,⟨41,aG m (.slice v1a m.rows.length v1c)⟩],[],[cV w.heap.size (.slice v1a m.rows.length v1c) 2 (m.rows.map a5),av (.slice Amr m.rows.length Cmr) 2 (m.rows.map a5)]⟩ <| kQ <| cY [2] ⟨[(2,.p 1 0)],[⟨25,aG m (.slice Amr m.rows.length Cmr)⟩,⟨41,aG m (.slice v1a m.rows.length v1c)⟩,⟨41,aG m (.slice v1a m.rows.length v1c)⟩],[],[cV w.heap.size (.slice v1a m.rows.length v1c) 2 (m.rows.map a5),av (.slice Amr m.rows.length Cmr) 2 (m.rows.map a5)]⟩ <| kR ?_
 exact ⟨[.agg (aG m (.slice v1a m.rows.length v1c)).toArray],by kernel_rfl,fun w' hb hf ha => by exact xo1 ((v1a,v1c)) rfl rfl (pO (hf _ m0) hB) hb⟩
theorem ytoKeys_c (k : Kys) (k_now_rowsV : Value) (k_before_rowsV : Value) (w : World) (hl_k_now_rowsV : Sl w k_now_rowsV 2 (k.now.rows.map a5)) (hl_k_before_rowsV : Sl w k_before_rowsV 2 (k.before.rows.map a5)) (hrn : k.now.rows.length ≤ 1048576) (hrb : k.before.rows.length ≤ 1048576) (B : Nat) (hB : B ≤ w.heap.size) : Calls Try.prog 24 #[.agg (cn k k_now_rowsV k_before_rowsV).toArray] w fun e w' => XRs w w' e (α := (Option Addr × Nat) × (Option Addr × Nat)) (fun y => .agg (cn k (.slice y.1.1 k.now.rows.length y.1.2) (.slice y.2.1 k.before.rows.length y.2.2)).toArray) (fun y => [cV B (.slice y.1.1 k.now.rows.length y.1.2) 2 (k.now.rows.map a5), cV B (.slice y.2.1 k.before.rows.length y.2.2) 2 (k.before.rows.map a5)]) := by
 obtain ⟨Aknr,Cknr,hvknr⟩ := hl_k_now_rowsV.form
 rw [List.length_map] at hvknr; subst hvknr
 have hnknr := hl_k_now_rowsV.len; rw [List.length_map] at hnknr
 have hqknr := Sl.capLe hl_k_now_rowsV
 obtain ⟨Akbr,Ckbr,hvkbr⟩ := hl_k_before_rowsV.form
 rw [List.length_map] at hvkbr; subst hvkbr
 have hnkbr := hl_k_before_rowsV.len; rw [List.length_map] at hnkbr
 have hqkbr := Sl.capLe hl_k_before_rowsV
 refine x_callsA (args := [.agg (cn k (.slice Aknr k.now.rows.length Cknr) (.slice Akbr k.before.rows.length Ckbr)).toArray]) (fn := Try.f24) [av (.slice Aknr k.now.rows.length Cknr) 2 (k.now.rows.map a5),av (.slice Akbr k.before.rows.length Ckbr) 2 (k.before.rows.map a5)] Try.func24 rfl Try.ntmps24 rfl (by simp only [List.mem_cons,List.not_mem_nil,or_false,forall_eq_or_imp,forall_eq]; exact ⟨⟨rfl,hl_k_now_rowsV⟩,⟨rfl,hl_k_before_rowsV⟩⟩) ?_
 refine kQ <| cY [1,2] ⟨[(1,.p 0 0),(2,.p 1 0)],[⟨27,cn k (.slice Aknr k.now.rows.length Cknr) (.slice Akbr k.before.rows.length Ckbr)⟩,⟨43,[iI 0,.bool false,.int .u64 0,.int .u64 0,.slice none 0 0,.bool false,.int .u64 0,.int .u64 0,.slice none 0 0,.bool false]⟩],[],[av (.slice Aknr k.now.rows.length Cknr) 2 (k.now.rows.map a5),av (.slice Akbr k.before.rows.length Ckbr) 2 (k.before.rows.map a5)]⟩ <| kQ <| cY [1,2,3] ⟨[(1,.p 0 0),(2,.p 1 0),(3,.p 2 0)],[⟨27,cn k (.slice Aknr k.now.rows.length Cknr) (.slice Akbr k.before.rows.length Ckbr)⟩,⟨43,[iI 0,.bool false,.int .u64 0,.int .u64 0,.slice none 0 0,.bool false,.int .u64 0,.int .u64 0,.slice none 0 0,.bool false]⟩,⟨43,[iI 0,.bool false,.int .u64 0,.int .u64 0,.slice none 0 0,.bool false,.int .u64 0,.int .u64 0,.slice none 0 0,.bool false]⟩],[],[av (.slice Aknr k.now.rows.length Cknr) 2 (k.now.rows.map a5),av (.slice Akbr k.before.rows.length Ckbr) 2 (k.before.rows.map a5)]⟩ ?_
 refine kQ <| cY [1,2,3] ⟨[(1,.p 0 0),(2,.p 1 0),(3,.p 2 0)],[⟨27,cn k (.slice Aknr k.now.rows.length Cknr) (.slice Akbr k.before.rows.length Ckbr)⟩,⟨43,[iI 0,.bool false,.int .u64 0,.int .u64 0,.slice none 0 0,.bool false,.int .u64 0,.int .u64 0,.slice none 0 0,.bool false]⟩,⟨43,[iI k.epoch,.bool false,.int .u64 0,.int .u64 0,.slice none 0 0,.bool false,.int .u64 0,.int .u64 0,.slice none 0 0,.bool false]⟩],[],[av (.slice Aknr k.now.rows.length Cknr) 2 (k.now.rows.map a5),av (.slice Akbr k.before.rows.length Ckbr) 2 (k.before.rows.map a5)]⟩ <| kQ <| kCS 2 [1,2,3,8] [(1,.p 0 0),(2,.p 1 0),(3,.p 2 0),(8,.v (.agg (aG k.now (.slice Aknr k.now.rows.length Cknr)).toArray))] 61 [.agg (aG k.now (.slice Aknr k.now.rows.length Cknr)).toArray] (some 9) rfl (xc_r fun ww hw hf => ytoMac_c k.now (.slice Aknr k.now.rows.length Cknr) ww (hf _ m0) (by first | assumption | omega) w.heap.size hw) ?_
 rintro ⟨v1a,v1c⟩
 refine cY [1,2,3] ⟨[(1,.p 0 0),(2,.p 1 0),(3,.p 2 0)],[⟨27,cn k (.slice Aknr k.now.rows.length Cknr) (.slice Akbr k.before.rows.length Ckbr)⟩,⟨43,[iI 0,.bool false,.int .u64 0,.int .u64 0,.slice none 0 0,.bool false,.int .u64 0,.int .u64 0,.slice none 0 0,.bool false]⟩,⟨43,[iI k.epoch,.bool k.now.use,.int .u64 k.now.k,.int .u64 k.now.l,.slice v1a k.now.rows.length v1c,.bool false,.int .u64 0,.int .u64 0,.slice none 0 0,.bool false]⟩],[],[cV w.heap.size (.slice v1a k.now.rows.length v1c) 2 (k.now.rows.map a5),av (.slice Aknr k.now.rows.length Cknr) 2 (k.now.rows.map a5),av (.slice Akbr k.before.rows.length Ckbr) 2 (k.before.rows.map a5)]⟩ <| kQ <| kCS 2 [1,2,3,12] [(1,.p 0 0),(2,.p 1 0),(3,.p 2 0),(12,.v (.agg (aG k.before (.slice Akbr k.before.rows.length Ckbr)).toArray))] 61 [.agg (aG k.before (.slice Akbr k.before.rows.length Ckbr)).toArray] (some 13) rfl (xc_r fun ww hw hf => ytoMac_c k.before (.slice Akbr k.before.rows.length Ckbr) ww (hf _ m2) (by first | assumption | omega) w.heap.size hw) ?_
 rintro ⟨v2a,v2c⟩
 refine cY [1,2,3] ⟨[(1,.p 0 0),(2,.p 1 0),(3,.p 2 0)],[⟨27,cn k (.slice Aknr k.now.rows.length Cknr) (.slice Akbr k.before.rows.length Ckbr)⟩,⟨43,[iI 0,.bool false,.int .u64 0,.int .u64 0,.slice none 0 0,.bool false,.int .u64 0,.int .u64 0,.slice none 0 0,.bool false]⟩,⟨43,cn { k with two := false } (.slice v1a k.now.rows.length v1c) (.slice v2a k.before.rows.length v2c)⟩],[],[cV w.heap.size (.slice v2a k.before.rows.length v2c) 2 (k.before.rows.map a5),cV w.heap.size (.slice v1a k.now.rows.length v1c) 2 (k.now.rows.map a5),av (.slice Aknr k.now.rows.length Cknr) 2 (k.now.rows.map a5),av (.slice Akbr k.before.rows.length Ckbr) 2 (k.before.rows.map a5)]⟩ <| kQ <| cY [2,3] ⟨[(2,.p 1 0),(3,.p 2 0)],[⟨27,cn k (.slice Aknr k.now.rows.length Cknr) (.slice Akbr k.before.rows.length Ckbr)⟩,⟨43,[iI 0,.bool false,.int .u64 0,.int .u64 0,.slice none 0 0,.bool false,.int .u64 0,.int .u64 0,.slice none 0 0,.bool false]⟩,⟨43,cn k (.slice v1a k.now.rows.length v1c) (.slice v2a k.before.rows.length v2c)⟩],[],[cV w.heap.size (.slice v2a k.before.rows.length v2c) 2 (k.before.rows.map a5),cV w.heap.size (.slice v1a k.now.rows.length v1c) 2 (k.now.rows.map a5),av (.slice Aknr k.now.rows.length Cknr) 2 (k.now.rows.map a5),av (.slice Akbr k.before.rows.length Ckbr) 2 (k.before.rows.map a5)]⟩ <| kQ <| cY [2] ⟨[(2,.p 1 0)],[⟨27,cn k (.slice Aknr k.now.rows.length Cknr) (.slice Akbr k.before.rows.length Ckbr)⟩,⟨43,cn k (.slice v1a k.now.rows.length v1c) (.slice v2a k.before.rows.length v2c)⟩,⟨43,cn k (.slice v1a k.now.rows.length v1c) (.slice v2a k.before.rows.length v2c)⟩],[],[cV w.heap.size (.slice v2a k.before.rows.length v2c) 2 (k.before.rows.map a5),cV w.heap.size (.slice v1a k.now.rows.length v1c) 2 (k.now.rows.map a5),av (.slice Aknr k.now.rows.length Cknr) 2 (k.now.rows.map a5),av (.slice Akbr k.before.rows.length Ckbr) 2 (k.before.rows.map a5)]⟩ ?_
 refine kR ?_
 exact ⟨[.agg (cn k (.slice v1a k.now.rows.length v1c) (.slice v2a k.before.rows.length v2c)).toArray],by kernel_rfl,fun w' hb hf ha => by exact xo2 ((v1a,v1c),(v2a,v2c)) rfl rfl (pO (hf _ m1) hB) (pO (hf _ m0) hB) (Apart.sub2 ha (i := 1) (j := 0) rfl rfl (by decide) rfl (fun b h => h) (fun b h => h)) hb⟩
inductive SubL : List Fact → List Fact → Prop
 | nil : SubL [] []
 | cons {f g : Fact} {l k : List Fact} : (∀ b,f.blk b → g.blk b) → SubL l k → SubL (f :: l) (g :: k)
theorem apart_subL {fs gs gs' : List Fact} (h : Apart fs) (m : List Nat) (hp : pickF fs m = some gs) (hm : nodupB m = true) (ho : ∀ g ∈ gs, g.own = true) (hb : SubL gs' gs) : Apart gs' := by
 have h0 := apart_iff.1 (h.pickN m hm hp)
 rw [apart_iff]
 clear hp h
 induction hb with
 | nil => exact List.Pairwise.nil
 | @cons g' g l' l hg hl ih =>
   obtain ⟨h1,h2⟩ := List.pairwise_cons.1 h0
   refine List.pairwise_cons.2 ⟨fun z hz => ?_,ih (fun x hx => ho x (List.mem_cons_of_mem _ hx)) h2⟩
   obtain ⟨z',hz',hzz⟩ : ∃ z' ∈ l,∀ b,z.blk b → z'.blk b := by
     clear h0 h1 h2 ih ho
     induction hl with
     | nil => cases hz
     | cons h1 h2 ih2 =>
       rcases List.mem_cons.1 hz with rfl | hz
       · exact ⟨_,List.mem_cons_self ..,h1⟩
       · obtain ⟨z',a,b⟩ := ih2 hz
         exact ⟨z',List.mem_cons_of_mem _ a,b⟩
   exact ⟨fun _ b hb hb' => (h1 z' hz').1 (ho g (List.mem_cons_self ..)) b (hg b hb) (hzz b hb'),fun _ b hb hb' => (h1 z' hz').2 (ho z' (List.mem_cons_of_mem _ hz')) b (hzz b hb) (hg b hb')⟩
theorem ytoDoor_c (d : Dor) (d_keys_now_rowsV : Value) (d_keys_before_rowsV : Value) (d_halvesV : Value) (d_table_connsV : Value) (d_table_waitingV : Value) (w : World) (hl_d_keys_now_rowsV : Sl w d_keys_now_rowsV 2 (d.keys.now.rows.map a5)) (hl_d_keys_before_rowsV : Sl w d_keys_before_rowsV 2 (d.keys.before.rows.map a5)) (hl_d_halvesV : Sl w d_halvesV 13 (d.halves.map a9)) (hl_d_table_connsV : Sl w d_table_connsV 25 (d.table.conns.map ah)) (hh_d_table_connsV : ∀ x ∈ d.table.conns, Sl w x.2 2 (x.1.r.held.map pC)) (hl_d_table_waitingV : Sl w d_table_waitingV 3 (d.table.waiting.map a8)) (hrn : d.keys.now.rows.length ≤ 1048576) (hrb : d.keys.before.rows.length ≤ 1048576) (hhl : d.halves.length ≤ 1048576) (hfit : ∀ x ∈ d.table.conns, cr x.1) (hln : d.table.conns.length ≤ 1048576) (hlw : d.table.waiting.length ≤ 1048576) (B : Nat) (hB : B ≤ w.heap.size) : Calls Try.prog 8 #[.agg (cy d d_keys_now_rowsV d_keys_before_rowsV d_halvesV d_table_connsV d_table_waitingV).toArray] w fun e w' => XRs w w' e (α := {cs : List CV // pl cs = pl d.table.conns} × (Option Addr × Nat) × (Option Addr × Nat) × (Option Addr × Nat) × (Option Addr × Nat) × (Option Addr × Nat)) (fun y => .agg (cy { d with table := { d.table with conns := y.1.1 } } (.slice y.2.1.1 d.keys.now.rows.length y.2.1.2) (.slice y.2.2.1.1 d.keys.before.rows.length y.2.2.1.2) (.slice y.2.2.2.1.1 d.halves.length y.2.2.2.1.2) (.slice y.2.2.2.2.1.1 y.1.1.length y.2.2.2.2.1.2) (.slice y.2.2.2.2.2.1 d.table.waiting.length y.2.2.2.2.2.2)).toArray) (fun y => [cV B (.slice y.2.1.1 d.keys.now.rows.length y.2.1.2) 2 (d.keys.now.rows.map a5), cV B (.slice y.2.2.1.1 d.keys.before.rows.length y.2.2.1.2) 2 (d.keys.before.rows.map a5), cV B (.slice y.2.2.2.1.1 d.halves.length y.2.2.2.1.2) 13 (d.halves.map a9), dg B 108 25 (.slice y.2.2.2.2.1.1 y.1.1.length y.2.2.2.2.1.2) (y.1.1.map ah), bA B y.1.1, cV B (.slice y.2.2.2.2.2.1 d.table.waiting.length y.2.2.2.2.2.2) 3 (d.table.waiting.map a8)]) := by
 obtain ⟨Adknr,Cdknr,hvdknr⟩ := hl_d_keys_now_rowsV.form
 rw [List.length_map] at hvdknr; subst hvdknr
 have hndknr := hl_d_keys_now_rowsV.len; rw [List.length_map] at hndknr
 have hqdknr := Sl.capLe hl_d_keys_now_rowsV
 obtain ⟨Adkbr,Cdkbr,hvdkbr⟩ := hl_d_keys_before_rowsV.form
 rw [List.length_map] at hvdkbr; subst hvdkbr
 have hndkbr := hl_d_keys_before_rowsV.len; rw [List.length_map] at hndkbr
 have hqdkbr := Sl.capLe hl_d_keys_before_rowsV
 obtain ⟨Adh,Cdh,hvdh⟩ := hl_d_halvesV.form
 rw [List.length_map] at hvdh; subst hvdh
 have hndh := hl_d_halvesV.len; rw [List.length_map] at hndh
 have hqdh := Sl.capLe hl_d_halvesV
 obtain ⟨Adtc,Cdtc,hvdtc⟩ := hl_d_table_connsV.form
 rw [List.length_map] at hvdtc; subst hvdtc
 have hndtc := hl_d_table_connsV.len; rw [List.length_map] at hndtc
 have hqdtc := Sl.capLe hl_d_table_connsV
 obtain ⟨Adtw,Cdtw,hvdtw⟩ := hl_d_table_waitingV.form
 rw [List.length_map] at hvdtw; subst hvdtw
 have hndtw := hl_d_table_waitingV.len; rw [List.length_map] at hndtw
 have hqdtw := Sl.capLe hl_d_table_waitingV
 refine x_callsA (args := [.agg (cy d (.slice Adknr d.keys.now.rows.length Cdknr) (.slice Adkbr d.keys.before.rows.length Cdkbr) (.slice Adh d.halves.length Cdh) (.slice Adtc d.table.conns.length Cdtc) (.slice Adtw d.table.waiting.length Cdtw)).toArray]) (fn := Try.f8) [av (.slice Adknr d.keys.now.rows.length Cdknr) 2 (d.keys.now.rows.map a5),av (.slice Adkbr d.keys.before.rows.length Cdkbr) 2 (d.keys.before.rows.map a5),av (.slice Adh d.halves.length Cdh) 13 (d.halves.map a9),av (.slice Adtc d.table.conns.length Cdtc) 25 (d.table.conns.map ah),bx d.table.conns,av (.slice Adtw d.table.waiting.length Cdtw) 3 (d.table.waiting.map a8)] Try.func8 rfl Try.ntmps8 rfl (by simp only [List.mem_cons,List.not_mem_nil,or_false,forall_eq_or_imp,forall_eq]; exact ⟨⟨rfl,hl_d_keys_now_rowsV⟩,⟨rfl,hl_d_keys_before_rowsV⟩,⟨rfl,hl_d_halvesV⟩,⟨rfl,hl_d_table_connsV⟩,⟨rfl,hh_d_table_connsV⟩,⟨rfl,hl_d_table_waitingV⟩⟩) ?_
 refine kQ <| cY [1,2] ⟨[(1,.p 0 0),(2,.p 1 0)],[⟨36,cy d (.slice Adknr d.keys.now.rows.length Cdknr) (.slice Adkbr d.keys.before.rows.length Cdkbr) (.slice Adh d.halves.length Cdh) (.slice Adtc d.table.conns.length Cdtc) (.slice Adtw d.table.waiting.length Cdtw)⟩,⟨51,[iI 0,iI 0,iI 0,.bool false,.int .u64 0,.int .u64 0,.slice none 0 0,.bool false,.int .u64 0,.int .u64 0,.slice none 0 0,.bool false,iI 0,iI 0,iI 0,iI 0,.slice none 0 0,.slice none 0 0,.slice none 0 0,iI 0]⟩],[],[av (.slice Adknr d.keys.now.rows.length Cdknr) 2 (d.keys.now.rows.map a5),av (.slice Adkbr d.keys.before.rows.length Cdkbr) 2 (d.keys.before.rows.map a5),av (.slice Adh d.halves.length Cdh) 13 (d.halves.map a9),av (.slice Adtc d.table.conns.length Cdtc) 25 (d.table.conns.map ah),bx d.table.conns,av (.slice Adtw d.table.waiting.length Cdtw) 3 (d.table.waiting.map a8)]⟩ <| kQ <| kEA [1,2,3] [(3,.p 2 0)] [⟨51,[iI 0,iI 0,iI 0,.bool false,.int .u64 0,.int .u64 0,.slice none 0 0,.bool false,.int .u64 0,.int .u64 0,.slice none 0 0,.bool false,iI 0,iI 0,iI 0,iI 0,.slice none 0 0,.slice none 0 0,.slice none 0 0,iI 0]⟩] ?_
 refine kQ <| kEU [1,2,3] [] 2 ⟨51,[iI d.port,iI 0,iI 0,.bool false,.int .u64 0,.int .u64 0,.slice none 0 0,.bool false,.int .u64 0,.int .u64 0,.slice none 0 0,.bool false,iI 0,iI 0,iI 0,iI 0,.slice none 0 0,.slice none 0 0,.slice none 0 0,iI 0]⟩ <| kQ <| kEU [1,2,3] [] 2 ⟨51,[iI d.port,iI d.clock,iI 0,.bool false,.int .u64 0,.int .u64 0,.slice none 0 0,.bool false,.int .u64 0,.int .u64 0,.slice none 0 0,.bool false,iI 0,iI 0,iI 0,iI 0,.slice none 0 0,.slice none 0 0,.slice none 0 0,iI 0]⟩ ?_
 refine kQ <| ch 2 [1,2,3,11] [(11,.v (.agg (cn d.keys (.slice Adknr d.keys.now.rows.length Cdknr) (.slice Adkbr d.keys.before.rows.length Cdkbr)).toArray))] 24 [.agg (cn d.keys (.slice Adknr d.keys.now.rows.length Cdknr) (.slice Adkbr d.keys.before.rows.length Cdkbr)).toArray] (some 12) rfl (xc_r fun ww hw hf => ytoKeys_c d.keys (.slice Adknr d.keys.now.rows.length Cdknr) (.slice Adkbr d.keys.before.rows.length Cdkbr) ww (hf _ m0) (hf _ m1) (by first | assumption | omega) (by first | assumption | omega) w.heap.size hw) ?_
 rintro ⟨⟨v1a,v1c⟩,⟨v2a,v2c⟩⟩
 refine kEU [1,2,3] [] 2 ⟨51,[iI d.port,iI d.clock,iI d.keys.epoch,.bool d.keys.now.use,.int .u64 d.keys.now.k,.int .u64 d.keys.now.l,.slice v1a d.keys.now.rows.length v1c,.bool d.keys.before.use,.int .u64 d.keys.before.k,.int .u64 d.keys.before.l,.slice v2a d.keys.before.rows.length v2c,.bool d.keys.two,iI 0,iI 0,iI 0,iI 0,.slice none 0 0,.slice none 0 0,.slice none 0 0,iI 0]⟩ <| kQ <| ch 2 [1,2,3,15] [(15,.v (.agg (bg d.lim).toArray))] 25 [.agg (bg d.lim).toArray] (some 16) rfl (bw fun ww hf => ytoLimits_c d.lim ww ) ?_
 intro _
 refine kEU [1,2,3] [] 2 ⟨51,cy { d with halves := [],table := ⟨[],[]⟩,chal := 0 } (.slice v1a d.keys.now.rows.length v1c) (.slice v2a d.keys.before.rows.length v2c) (.slice none 0 0) (.slice none 0 0) (.slice none 0 0)⟩ <| kQ <| ch 2 [1,2,3,19] [(19,.v (.slice Adh d.halves.length Cdh))] 26 [.slice Adh d.halves.length Cdh] (some 20) rfl (xc_on (m := d.halves.length) (F := fun v' => v') (List.length_map ..) fun ww hf => toHalfS_c (.slice Adh d.halves.length Cdh) d.halves ww (hf _ m4) (by omega)) ?_
 rintro ⟨v3a,v3c⟩
 refine kEU [1,2,3] [] 2 ⟨51,cy { d with table := ⟨[],[]⟩,chal := 0 } (.slice v1a d.keys.now.rows.length v1c) (.slice v2a d.keys.before.rows.length v2c) (.slice v3a d.halves.length v3c) (.slice none 0 0) (.slice none 0 0)⟩ <| kQ <| ch 2 [1,2,3,23] [(23,.v (.agg (bY d.table (.slice Adtc d.table.conns.length Cdtc) (.slice Adtw d.table.waiting.length Cdtw)).toArray))] 27 [.agg (bY d.table (.slice Adtc d.table.conns.length Cdtc) (.slice Adtw d.table.waiting.length Cdtw)).toArray] (some 24) rfl (xc_r fun ww hw hf => ytoTable_c d.table (.slice Adtc d.table.conns.length Cdtc) (.slice Adtw d.table.waiting.length Cdtw) ww (hf _ m6) (hf _ m7) (hf (av (.slice Adtw d.table.waiting.length Cdtw) 3 (d.table.waiting.map a8)) (by simp)) (by assumption) (by omega) (by omega) w.heap.size hw) ?_
 rintro ⟨⟨t4l,ht4l⟩,⟨t4a,t4c⟩,⟨t4d,t4e⟩⟩
 dsimp only
 have hfit_t4l : ∀ x ∈ t4l,cr x.1 := conFit_pl ht4l (by assumption)
 have hlen_t4l := pl_len ht4l
 refine cY [1,2,3] ⟨[(1,.p 0 0),(2,.p 1 0),(3,.p 2 0)],[⟨36,cy d (.slice Adknr d.keys.now.rows.length Cdknr) (.slice Adkbr d.keys.before.rows.length Cdkbr) (.slice Adh d.halves.length Cdh) (.slice Adtc d.table.conns.length Cdtc) (.slice Adtw d.table.waiting.length Cdtw)⟩,⟨51,[iI 0,iI 0,iI 0,.bool false,.int .u64 0,.int .u64 0,.slice none 0 0,.bool false,.int .u64 0,.int .u64 0,.slice none 0 0,.bool false,iI 0,iI 0,iI 0,iI 0,.slice none 0 0,.slice none 0 0,.slice none 0 0,iI 0]⟩,⟨51,cy { d with table := { d.table with conns := t4l },chal := 0 } (.slice v1a d.keys.now.rows.length v1c) (.slice v2a d.keys.before.rows.length v2c) (.slice v3a d.halves.length v3c) (.slice t4a t4l.length t4c) (.slice t4d d.table.waiting.length t4e)⟩],[],[dg w.heap.size 108 25 (.slice t4a t4l.length t4c) (t4l.map ah),bA w.heap.size t4l,cV w.heap.size (.slice t4d d.table.waiting.length t4e) 3 (d.table.waiting.map a8),cV w.heap.size (.slice v3a d.halves.length v3c) 13 (d.halves.map a9),cV w.heap.size (.slice v1a d.keys.now.rows.length v1c) 2 (d.keys.now.rows.map a5),cV w.heap.size (.slice v2a d.keys.before.rows.length v2c) 2 (d.keys.before.rows.map a5),av (.slice Adknr d.keys.now.rows.length Cdknr) 2 (d.keys.now.rows.map a5),av (.slice Adkbr d.keys.before.rows.length Cdkbr) 2 (d.keys.before.rows.map a5),av (.slice Adh d.halves.length Cdh) 13 (d.halves.map a9),av (.slice Adtc d.table.conns.length Cdtc) 25 (d.table.conns.map ah),bx d.table.conns,av (.slice Adtw d.table.waiting.length Cdtw) 3 (d.table.waiting.map a8)]⟩ <| kQ <| kEU [2,3] [] 2 ⟨51,cy { d with table := { d.table with conns := t4l } } (.slice v1a d.keys.now.rows.length v1c) (.slice v2a d.keys.before.rows.length v2c) (.slice v3a d.halves.length v3c) (.slice t4a t4l.length t4c) (.slice t4d d.table.waiting.length t4e)⟩ <| kQ <| kEU [2] [(2,.p 1 0)] 1 ⟨51,cy { d with table := { d.table with conns := t4l } } (.slice v1a d.keys.now.rows.length v1c) (.slice v2a d.keys.before.rows.length v2c) (.slice v3a d.halves.length v3c) (.slice t4a t4l.length t4c) (.slice t4d d.table.waiting.length t4e)⟩ ?_
 refine kR ?_
 exact ⟨[.agg (cy { d with table := { d.table with conns := t4l } } (.slice v1a d.keys.now.rows.length v1c) (.slice v2a d.keys.before.rows.length v2c) (.slice v3a d.halves.length v3c) (.slice t4a t4l.length t4c) (.slice t4d d.table.waiting.length t4e)).toArray],by kernel_rfl,fun w' hb hf ha => ⟨(⟨t4l,ht4l⟩,(v1a,v1c),(v2a,v2c),(v3a,v3c),(t4a,t4c),(t4d,t4e)),rfl,(by simp only [List.mem_cons,List.not_mem_nil,or_false,forall_eq_or_imp,forall_eq]; exact ⟨pO (hf _ m4) hB,pO (hf _ m5) hB,pO (hf _ m3) hB,pW (hf _ m0) hB,pH (hf _ m1) hB,pO (hf _ m2) hB⟩),apart_subL ha [4,5,3,0,1,2] rfl (by decide) (by simp only [List.mem_cons,List.not_mem_nil,or_false,forall_eq_or_imp,forall_eq]; exact ⟨rfl,rfl,rfl,rfl,rfl,rfl⟩) (.cons (fun b h => h) (.cons (fun b h => h) (.cons (fun b h => h) (.cons (fun b h => h) (.cons (fun b h => hownF_blk h) (.cons (fun b h => h) .nil)))))),hb⟩⟩
theorem yeqMac_c (m : Mac) (p_rowsV : Value) (q_rowsV : Value) (w : World) (hl_p_rowsV : Sl w p_rowsV 2 (m.rows.map a5)) (hl_q_rowsV : Sl w q_rowsV 2 (m.rows.map a5)) : Calls Try.prog 70 #[.agg #[.bool m.use, .int .u64 m.k, .int .u64 m.l, p_rowsV], .agg #[.bool m.use, .int .u64 m.k, .int .u64 m.l, q_rowsV]] w fun e w' => e = .returned (.bool true) ∧ Below w.heap.size w w' := by
 obtain ⟨Apr,Cpr,hvpr⟩ := hl_p_rowsV.form
 rw [List.length_map] at hvpr; subst hvpr
 have hnpr := hl_p_rowsV.len; rw [List.length_map] at hnpr
 have hqpr := Sl.capLe hl_p_rowsV
 obtain ⟨Aqr,Cqr,hvqr⟩ := hl_q_rowsV.form
 rw [List.length_map] at hvqr; subst hvqr
 have hnqr := hl_q_rowsV.len; rw [List.length_map] at hnqr
 have hqqr := Sl.capLe hl_q_rowsV
 refine aj (args := [.agg (aG m (.slice Apr m.rows.length Cpr)).toArray,.agg (aG m (.slice Aqr m.rows.length Cqr)).toArray]) (fn := Try.f70) [av (.slice Apr m.rows.length Cpr) 2 (m.rows.map a5),av (.slice Aqr m.rows.length Cqr) 2 (m.rows.map a5)] Try.func70 rfl Try.ntmps70 rfl (by simp only [List.mem_cons,List.not_mem_nil,or_false,forall_eq_or_imp,forall_eq]; exact ⟨⟨rfl,hl_p_rowsV⟩,⟨rfl,hl_q_rowsV⟩⟩) ?_
 refine kQ <| cY [2,3] ⟨[(2,.p 0 0),(3,.p 1 0)],[⟨41,aG m (.slice Apr m.rows.length Cpr)⟩,⟨41,aG m (.slice Aqr m.rows.length Cqr)⟩],[],[av (.slice Apr m.rows.length Cpr) 2 (m.rows.map a5),av (.slice Aqr m.rows.length Cqr) 2 (m.rows.map a5)]⟩ <| kS <| kQ <| ac [2,3,9] [(9,aB (!(m.use == m.use)))] ?_
 refine kC (!(m.use == m.use)) (fun h1 => ?_) (fun h1 => ?_)
 have h1n := aa h1
 simp at h1n
 have h1n := ak h1
 have h1np := eqT h1n
 refine kK <| kS <| kQ <| ac [2,3,14] [(14,aB (m.k != m.k))] ?_
 refine kC (m.k != m.k) (fun h2 => ?_) (fun h2 => ?_)
 simp at h2
 have h2p := neF h2
 refine kK <| kS <| kQ <| ac [2,3,19] [(19,aB (m.l != m.l))] ?_
 refine kC (m.l != m.l) (fun h3 => ?_) (fun h3 => ?_)
 simp at h3
 have h3p := neF h3
 refine kK <| kS <| kQ <| kCS 4 [21,23] [(21,.v (.slice Apr m.rows.length Cpr)),(23,.v (.slice Aqr m.rows.length Cqr))] 104 [.slice Apr m.rows.length Cpr,.slice Aqr m.rows.length Cqr] (some 24) rfl (bw fun ww hf => eqMacRowS_c (.slice Apr m.rows.length Cpr) (.slice Aqr m.rows.length Cqr) m.rows ww (hf _ m0) (hf _ m1)) ?_
 intro _
 refine am [25] [(25,aB false)] <| kN <| kK <| kQ <| am [4] [(4,aB true)] ?_
 refine kR ?_
 exact ⟨[.bool true],by kernel_rfl,fun w' hb hf => ⟨rfl,hb⟩⟩
theorem yeqKeys_c (m : Kys) (p_now_rowsV : Value) (p_before_rowsV : Value) (q_now_rowsV : Value) (q_before_rowsV : Value) (w : World) (hl_p_now_rowsV : Sl w p_now_rowsV 2 (m.now.rows.map a5)) (hl_p_before_rowsV : Sl w p_before_rowsV 2 (m.before.rows.map a5)) (hl_q_now_rowsV : Sl w q_now_rowsV 2 (m.now.rows.map a5)) (hl_q_before_rowsV : Sl w q_before_rowsV 2 (m.before.rows.map a5)) : Calls Try.prog 31 #[.agg #[iI m.epoch, .bool m.now.use, .int .u64 m.now.k, .int .u64 m.now.l, p_now_rowsV, .bool m.before.use, .int .u64 m.before.k, .int .u64 m.before.l, p_before_rowsV, .bool m.two], .agg #[iI m.epoch, .bool m.now.use, .int .u64 m.now.k, .int .u64 m.now.l, q_now_rowsV, .bool m.before.use, .int .u64 m.before.k, .int .u64 m.before.l, q_before_rowsV, .bool m.two]] w fun e w' => e = .returned (.bool true) ∧ Below w.heap.size w w' := by
 obtain ⟨Apnr,Cpnr,hvpnr⟩ := hl_p_now_rowsV.form
 rw [List.length_map] at hvpnr; subst hvpnr
 have hnpnr := hl_p_now_rowsV.len; rw [List.length_map] at hnpnr
 have hqpnr := Sl.capLe hl_p_now_rowsV
 obtain ⟨Apbr,Cpbr,hvpbr⟩ := hl_p_before_rowsV.form
 rw [List.length_map] at hvpbr; subst hvpbr
 have hnpbr := hl_p_before_rowsV.len; rw [List.length_map] at hnpbr
 have hqpbr := Sl.capLe hl_p_before_rowsV
 obtain ⟨Aqnr,Cqnr,hvqnr⟩ := hl_q_now_rowsV.form
 rw [List.length_map] at hvqnr; subst hvqnr
 have hnqnr := hl_q_now_rowsV.len; rw [List.length_map] at hnqnr
 have hqqnr := Sl.capLe hl_q_now_rowsV
 obtain ⟨Aqbr,Cqbr,hvqbr⟩ := hl_q_before_rowsV.form
 rw [List.length_map] at hvqbr; subst hvqbr
 have hnqbr := hl_q_before_rowsV.len; rw [List.length_map] at hnqbr
 have hqqbr := Sl.capLe hl_q_before_rowsV
 refine aj (args := [.agg (cn m (.slice Apnr m.now.rows.length Cpnr) (.slice Apbr m.before.rows.length Cpbr)).toArray,.agg (cn m (.slice Aqnr m.now.rows.length Cqnr) (.slice Aqbr m.before.rows.length Cqbr)).toArray]) (fn := Try.f31) [av (.slice Apnr m.now.rows.length Cpnr) 2 (m.now.rows.map a5),av (.slice Apbr m.before.rows.length Cpbr) 2 (m.before.rows.map a5),av (.slice Aqnr m.now.rows.length Cqnr) 2 (m.now.rows.map a5),av (.slice Aqbr m.before.rows.length Cqbr) 2 (m.before.rows.map a5)] Try.func31 rfl Try.ntmps31 rfl (by simp only [List.mem_cons,List.not_mem_nil,or_false,forall_eq_or_imp,forall_eq]; exact ⟨⟨rfl,hl_p_now_rowsV⟩,⟨rfl,hl_p_before_rowsV⟩,⟨rfl,hl_q_now_rowsV⟩,⟨rfl,hl_q_before_rowsV⟩⟩) ?_
 refine kQ <| cY [2,3] ⟨[(2,.p 0 0),(3,.p 1 0)],[⟨43,cn m (.slice Apnr m.now.rows.length Cpnr) (.slice Apbr m.before.rows.length Cpbr)⟩,⟨43,cn m (.slice Aqnr m.now.rows.length Cqnr) (.slice Aqbr m.before.rows.length Cqbr)⟩],[],[av (.slice Apnr m.now.rows.length Cpnr) 2 (m.now.rows.map a5),av (.slice Apbr m.before.rows.length Cpbr) 2 (m.before.rows.map a5),av (.slice Aqnr m.now.rows.length Cqnr) 2 (m.now.rows.map a5),av (.slice Aqbr m.before.rows.length Cqbr) 2 (m.before.rows.map a5)]⟩ <| kS <| kQ <| ac [2,3,9] [(9,aB (m.epoch != m.epoch))] ?_
 refine kC (m.epoch != m.epoch) (fun h1 => ?_) (fun h1 => ?_)
 simp at h1
 have h1p := neF h1
 refine kK <| kS <| kQ <| ch 4 [2,3,11,13] [(11,.v (.agg (aG m.now (.slice Apnr m.now.rows.length Cpnr)).toArray)),(13,.v (.agg (aG m.now (.slice Aqnr m.now.rows.length Cqnr)).toArray))] 70 [.agg (aG m.now (.slice Apnr m.now.rows.length Cpnr)).toArray,.agg (aG m.now (.slice Aqnr m.now.rows.length Cqnr)).toArray] (some 14) rfl (bw fun ww hf => yeqMac_c m.now (.slice Apnr m.now.rows.length Cpnr) (.slice Aqnr m.now.rows.length Cqnr) ww (hf _ m0) (hf _ m2)) ?_
 intro _
 refine ac [2,3,15] [(15,aB false)] <| kN <| kK <| kS <| kQ <| ch 4 [2,3,17,19] [(17,.v (.agg (aG m.before (.slice Apbr m.before.rows.length Cpbr)).toArray)),(19,.v (.agg (aG m.before (.slice Aqbr m.before.rows.length Cqbr)).toArray))] 70 [.agg (aG m.before (.slice Apbr m.before.rows.length Cpbr)).toArray,.agg (aG m.before (.slice Aqbr m.before.rows.length Cqbr)).toArray] (some 20) rfl (bw fun ww hf => yeqMac_c m.before (.slice Apbr m.before.rows.length Cpbr) (.slice Aqbr m.before.rows.length Cqbr) ww (hf _ m1) (hf _ m3)) ?_
 intro _
 refine ac [2,3,21] [(21,aB false)] <| kN <| kK <| kS <| kQ <| am [26] [(26,aB (!(m.two == m.two)))] ?_
 refine kC (!(m.two == m.two)) (fun h2 => ?_) (fun h2 => ?_)
 have h2n := aa h2
 simp at h2n
 have h2n := ak h2
 have h2np := eqT h2n
 refine kK <| kQ <| am [4] [(4,aB true)] <| kR ?_
 exact ⟨[.bool true],by kernel_rfl,fun w' hb hf => ⟨rfl,hb⟩⟩
theorem yeqLimits_c (a : Lim) (w : World)  : Calls Try.prog 32 #[.agg (bg a).toArray, .agg (bg a).toArray] w fun e w' => e = .returned (.bool true) ∧ Below w.heap.size w w' := by
 refine aj (args := [.agg (bg a).toArray,.agg (bg a).toArray]) (fn := Try.f32) [] Try.func32 rfl Try.ntmps32 rfl (by simp) ?_
 refine kQ <| cY [2,3] ⟨[(2,.p 0 0),(3,.p 1 0)],[⟨44,bg a⟩,⟨44,bg a⟩],[],[]⟩ <| kS <| kQ <| ac [2,3,9] [(9,aB (a.halves != a.halves))] ?_
 refine kC (a.halves != a.halves) (fun h1 => ?_) (fun h1 => ?_)
 simp at h1
 have h1p := neF h1
 refine kK <| kS <| kQ <| ac [2,3,14] [(14,aB (a.waiting != a.waiting))] ?_
 refine kC (a.waiting != a.waiting) (fun h2 => ?_) (fun h2 => ?_)
 simp at h2
 have h2p := neF h2
 refine kK <| kS <| kQ <| ac [2,3,19] [(19,aB (a.conns != a.conns))] ?_
 refine kC (a.conns != a.conns) (fun h3 => ?_) (fun h3 => ?_)
 simp at h3
 have h3p := neF h3
 refine kK <| kS <| kQ <| am [24] [(24,aB (a.chal != a.chal))] ?_
 refine kC (a.chal != a.chal) (fun h4 => ?_) (fun h4 => ?_)
 simp at h4
 have h4p := neF h4
 refine kK <| kQ <| am [4] [(4,aB true)] <| kR ?_
 exact ⟨[.bool true],by kernel_rfl,fun w' hb hf => ⟨rfl,hb⟩⟩
theorem yeqDoor_c (m : Dor) (a : List CV) (p_keys_now_rowsV : Value) (p_keys_before_rowsV : Value) (p_halvesV : Value) (p_table_connsV : Value) (p_table_waitingV : Value) (b : List CV) (q_keys_now_rowsV : Value) (q_keys_before_rowsV : Value) (q_halvesV : Value) (q_table_connsV : Value) (q_table_waitingV : Value) (w : World) (hl_p_keys_now_rowsV : Sl w p_keys_now_rowsV 2 (m.keys.now.rows.map a5)) (hl_p_keys_before_rowsV : Sl w p_keys_before_rowsV 2 (m.keys.before.rows.map a5)) (hl_p_halvesV : Sl w p_halvesV 13 (m.halves.map a9)) (hl_p_table_connsV : Sl w p_table_connsV 25 (a.map ah)) (hh_p_table_connsV : ∀ x ∈ a, Sl w x.2 2 (x.1.r.held.map pC)) (hl_p_table_waitingV : Sl w p_table_waitingV 3 (m.table.waiting.map a8)) (hl_q_keys_now_rowsV : Sl w q_keys_now_rowsV 2 (m.keys.now.rows.map a5)) (hl_q_keys_before_rowsV : Sl w q_keys_before_rowsV 2 (m.keys.before.rows.map a5)) (hl_q_halvesV : Sl w q_halvesV 13 (m.halves.map a9)) (hl_q_table_connsV : Sl w q_table_connsV 25 (b.map ah)) (hh_q_table_connsV : ∀ x ∈ b, Sl w x.2 2 (x.1.r.held.map pC)) (hl_q_table_waitingV : Sl w q_table_waitingV 3 (m.table.waiting.map a8)) (hpl : pl a = pl b) : Calls Try.prog 10 #[.agg #[iI m.port, iI m.clock, iI m.keys.epoch, .bool m.keys.now.use, .int .u64 m.keys.now.k, .int .u64 m.keys.now.l, p_keys_now_rowsV, .bool m.keys.before.use, .int .u64 m.keys.before.k, .int .u64 m.keys.before.l, p_keys_before_rowsV, .bool m.keys.two, iI m.lim.halves, iI m.lim.waiting, iI m.lim.conns, iI m.lim.chal, p_halvesV, p_table_connsV, p_table_waitingV, iI m.chal], .agg #[iI m.port, iI m.clock, iI m.keys.epoch, .bool m.keys.now.use, .int .u64 m.keys.now.k, .int .u64 m.keys.now.l, q_keys_now_rowsV, .bool m.keys.before.use, .int .u64 m.keys.before.k, .int .u64 m.keys.before.l, q_keys_before_rowsV, .bool m.keys.two, iI m.lim.halves, iI m.lim.waiting, iI m.lim.conns, iI m.lim.chal, q_halvesV, q_table_connsV, q_table_waitingV, iI m.chal]] w fun e w' => e = .returned (.bool true) ∧ Below w.heap.size w w' := by
 obtain ⟨Apknr,Cpknr,hvpknr⟩ := hl_p_keys_now_rowsV.form
 rw [List.length_map] at hvpknr; subst hvpknr
 have hnpknr := hl_p_keys_now_rowsV.len; rw [List.length_map] at hnpknr
 have hqpknr := Sl.capLe hl_p_keys_now_rowsV
 obtain ⟨Apkbr,Cpkbr,hvpkbr⟩ := hl_p_keys_before_rowsV.form
 rw [List.length_map] at hvpkbr; subst hvpkbr
 have hnpkbr := hl_p_keys_before_rowsV.len; rw [List.length_map] at hnpkbr
 have hqpkbr := Sl.capLe hl_p_keys_before_rowsV
 obtain ⟨Aph,Cph,hvph⟩ := hl_p_halvesV.form
 rw [List.length_map] at hvph; subst hvph
 have hnph := hl_p_halvesV.len; rw [List.length_map] at hnph
 have hqph := Sl.capLe hl_p_halvesV
 obtain ⟨Aptc,Cptc,hvptc⟩ := hl_p_table_connsV.form
 rw [List.length_map] at hvptc; subst hvptc
 have hnptc := hl_p_table_connsV.len; rw [List.length_map] at hnptc
 have hqptc := Sl.capLe hl_p_table_connsV
 obtain ⟨Aptw,Cptw,hvptw⟩ := hl_p_table_waitingV.form
 rw [List.length_map] at hvptw; subst hvptw
 have hnptw := hl_p_table_waitingV.len; rw [List.length_map] at hnptw
 have hqptw := Sl.capLe hl_p_table_waitingV
 obtain ⟨Aqknr,Cqknr,hvqknr⟩ := hl_q_keys_now_rowsV.form
 rw [List.length_map] at hvqknr; subst hvqknr
 have hnqknr := hl_q_keys_now_rowsV.len; rw [List.length_map] at hnqknr
 have hqqknr := Sl.capLe hl_q_keys_now_rowsV
 obtain ⟨Aqkbr,Cqkbr,hvqkbr⟩ := hl_q_keys_before_rowsV.form
 rw [List.length_map] at hvqkbr; subst hvqkbr
 have hnqkbr := hl_q_keys_before_rowsV.len; rw [List.length_map] at hnqkbr
 have hqqkbr := Sl.capLe hl_q_keys_before_rowsV
 obtain ⟨Aqh,Cqh,hvqh⟩ := hl_q_halvesV.form
 rw [List.length_map] at hvqh; subst hvqh
 have hnqh := hl_q_halvesV.len; rw [List.length_map] at hnqh
 have hqqh := Sl.capLe hl_q_halvesV
 obtain ⟨Aqtc,Cqtc,hvqtc⟩ := hl_q_table_connsV.form
 rw [List.length_map] at hvqtc; subst hvqtc
 have hnqtc := hl_q_table_connsV.len; rw [List.length_map] at hnqtc
 have hqqtc := Sl.capLe hl_q_table_connsV
 obtain ⟨Aqtw,Cqtw,hvqtw⟩ := hl_q_table_waitingV.form
 rw [List.length_map] at hvqtw; subst hvqtw
 have hnqtw := hl_q_table_waitingV.len; rw [List.length_map] at hnqtw
 have hqqtw := Sl.capLe hl_q_table_waitingV
 refine aj (args := [.agg (cy { m with table := { m.table with conns := a } } (.slice Apknr m.keys.now.rows.length Cpknr) (.slice Apkbr m.keys.before.rows.length Cpkbr) (.slice Aph m.halves.length Cph) (.slice Aptc a.length Cptc) (.slice Aptw m.table.waiting.length Cptw)).toArray,.agg (cy { m with table := { m.table with conns := b } } (.slice Aqknr m.keys.now.rows.length Cqknr) (.slice Aqkbr m.keys.before.rows.length Cqkbr) (.slice Aqh m.halves.length Cqh) (.slice Aqtc b.length Cqtc) (.slice Aqtw m.table.waiting.length Cqtw)).toArray]) (fn := Try.f10) [av (.slice Apknr m.keys.now.rows.length Cpknr) 2 (m.keys.now.rows.map a5),av (.slice Apkbr m.keys.before.rows.length Cpkbr) 2 (m.keys.before.rows.map a5),av (.slice Aph m.halves.length Cph) 13 (m.halves.map a9),av (.slice Aptc a.length Cptc) 25 (a.map ah),bx a,av (.slice Aptw m.table.waiting.length Cptw) 3 (m.table.waiting.map a8),av (.slice Aqknr m.keys.now.rows.length Cqknr) 2 (m.keys.now.rows.map a5),av (.slice Aqkbr m.keys.before.rows.length Cqkbr) 2 (m.keys.before.rows.map a5),av (.slice Aqh m.halves.length Cqh) 13 (m.halves.map a9),av (.slice Aqtc b.length Cqtc) 25 (b.map ah),bx b,av (.slice Aqtw m.table.waiting.length Cqtw) 3 (m.table.waiting.map a8)] Try.func10 rfl Try.ntmps10 rfl (by simp only [List.mem_cons,List.not_mem_nil,or_false,forall_eq_or_imp,forall_eq]; exact ⟨⟨rfl,hl_p_keys_now_rowsV⟩,⟨rfl,hl_p_keys_before_rowsV⟩,⟨rfl,hl_p_halvesV⟩,⟨rfl,hl_p_table_connsV⟩,⟨rfl,hh_p_table_connsV⟩,⟨rfl,hl_p_table_waitingV⟩,⟨rfl,hl_q_keys_now_rowsV⟩,⟨rfl,hl_q_keys_before_rowsV⟩,⟨rfl,hl_q_halvesV⟩,⟨rfl,hl_q_table_connsV⟩,⟨rfl,hh_q_table_connsV⟩,⟨rfl,hl_q_table_waitingV⟩⟩) ?_
 refine kQ <| cY [2,3] ⟨[(2,.p 0 0),(3,.p 1 0)],[⟨51,cy { m with table := { m.table with conns := a } } (.slice Apknr m.keys.now.rows.length Cpknr) (.slice Apkbr m.keys.before.rows.length Cpkbr) (.slice Aph m.halves.length Cph) (.slice Aptc a.length Cptc) (.slice Aptw m.table.waiting.length Cptw)⟩,⟨51,cy { m with table := { m.table with conns := b } } (.slice Aqknr m.keys.now.rows.length Cqknr) (.slice Aqkbr m.keys.before.rows.length Cqkbr) (.slice Aqh m.halves.length Cqh) (.slice Aqtc b.length Cqtc) (.slice Aqtw m.table.waiting.length Cqtw)⟩],[],[av (.slice Apknr m.keys.now.rows.length Cpknr) 2 (m.keys.now.rows.map a5),av (.slice Apkbr m.keys.before.rows.length Cpkbr) 2 (m.keys.before.rows.map a5),av (.slice Aph m.halves.length Cph) 13 (m.halves.map a9),av (.slice Aptc a.length Cptc) 25 (a.map ah),bx a,av (.slice Aptw m.table.waiting.length Cptw) 3 (m.table.waiting.map a8),av (.slice Aqknr m.keys.now.rows.length Cqknr) 2 (m.keys.now.rows.map a5),av (.slice Aqkbr m.keys.before.rows.length Cqkbr) 2 (m.keys.before.rows.map a5),av (.slice Aqh m.halves.length Cqh) 13 (m.halves.map a9),av (.slice Aqtc b.length Cqtc) 25 (b.map ah),bx b,av (.slice Aqtw m.table.waiting.length Cqtw) 3 (m.table.waiting.map a8)]⟩ <| kS <| kQ <| ac [2,3,9] [(9,aB (m.port != m.port))] ?_
 refine kC (m.port != m.port) (fun h1 => ?_) (fun h1 => ?_)
 simp at h1
 have h1p := neF h1
 refine kK <| kS <| kQ <| ac [2,3,14] [(14,aB (m.clock != m.clock))] ?_
 refine kC (m.clock != m.clock) (fun h2 => ?_) (fun h2 => ?_)
 simp at h2
 have h2p := neF h2
 refine kK <| kS <| kQ <| ch 4 [2,3,16,18] [(16,.v (.agg (cn m.keys (.slice Apknr m.keys.now.rows.length Cpknr) (.slice Apkbr m.keys.before.rows.length Cpkbr)).toArray)),(18,.v (.agg (cn m.keys (.slice Aqknr m.keys.now.rows.length Cqknr) (.slice Aqkbr m.keys.before.rows.length Cqkbr)).toArray))] 31 [.agg (cn m.keys (.slice Apknr m.keys.now.rows.length Cpknr) (.slice Apkbr m.keys.before.rows.length Cpkbr)).toArray,.agg (cn m.keys (.slice Aqknr m.keys.now.rows.length Cqknr) (.slice Aqkbr m.keys.before.rows.length Cqkbr)).toArray] (some 19) rfl (bw fun ww hf => yeqKeys_c m.keys (.slice Apknr m.keys.now.rows.length Cpknr) (.slice Apkbr m.keys.before.rows.length Cpkbr) (.slice Aqknr m.keys.now.rows.length Cqknr) (.slice Aqkbr m.keys.before.rows.length Cqkbr) ww (hf _ m0) (hf _ m1) (hf _ m6) (hf _ m7)) ?_
 intro _
 refine ac [2,3,20] [(20,aB false)] <| kN <| kK <| kS <| kQ <| ch 4 [2,3,22,24] [(22,.v (.agg (bg m.lim).toArray)),(24,.v (.agg (bg m.lim).toArray))] 32 [.agg (bg m.lim).toArray,.agg (bg m.lim).toArray] (some 25) rfl (bw fun ww hf => yeqLimits_c m.lim ww) ?_
 intro _
 refine ac [2,3,26] [(26,aB false)] <| kN <| kK <| kS <| kQ <| ch 4 [2,3,28,30] [(28,.v (.slice Aph m.halves.length Cph)),(30,.v (.slice Aqh m.halves.length Cqh))] 33 [.slice Aph m.halves.length Cph,.slice Aqh m.halves.length Cqh] (some 31) rfl (bw fun ww hf => eqHalfS_c (.slice Aph m.halves.length Cph) (.slice Aqh m.halves.length Cqh) m.halves ww (hf _ m2) (hf (av (.slice Aqh m.halves.length Cqh) 13 (m.halves.map a9)) (by simp))) ?_
 intro _
 refine ac [2,3,32] [(32,aB false)] <| kN <| kK <| kS <| kQ <| ch 4 [2,3,34,36] [(34,.v (.agg (bY { m.table with conns := a } (.slice Aptc a.length Cptc) (.slice Aptw m.table.waiting.length Cptw)).toArray)),(36,.v (.agg (bY { m.table with conns := b } (.slice Aqtc b.length Cqtc) (.slice Aqtw m.table.waiting.length Cqtw)).toArray))] 34 [.agg (bY { m.table with conns := a } (.slice Aptc a.length Cptc) (.slice Aptw m.table.waiting.length Cptw)).toArray,.agg (bY { m.table with conns := b } (.slice Aqtc b.length Cqtc) (.slice Aqtw m.table.waiting.length Cqtw)).toArray] (some 37) rfl (bw fun ww hf => yeqTable_c a m.table.waiting (.slice Aptc a.length Cptc) (.slice Aptw m.table.waiting.length Cptw) b (.slice Aqtc b.length Cqtc) (.slice Aqtw m.table.waiting.length Cqtw) ww (hf _ m3) (hf _ m4) (hf _ m5) (hf (av (.slice Aqtc b.length Cqtc) 25 (b.map ah)) (by simp)) (hf (bx b) (by simp)) (hf (av (.slice Aqtw m.table.waiting.length Cqtw) 3 (m.table.waiting.map a8)) (by simp)) (by first | assumption | (simp only [hpl]; done))) ?_
 intro _
 refine ac [2,3,38] [(38,aB false)] <| kN <| kK <| kS <| kQ <| am [43] [(43,aB (m.chal != m.chal))] ?_
 refine kC (m.chal != m.chal) (fun h3 => ?_) (fun h3 => ?_)
 simp at h3
 have h3p := neF h3
 refine kK <| kQ <| am [4] [(4,aB true)] <| kR ?_
 exact ⟨[.bool true],by kernel_rfl,fun w' hb hf => ⟨rfl,hb⟩⟩
def dp (l : List Mrw) (i : Nat) (r : Mrw) : Bool := (decide (0 ≤ r.value) && decide (r.value ≤ 16777215)) && !((l.take i).any (fun x => x.input.toList == r.input.toList))
def ad (m : Mac) : Bool := if m.use then allI (dp m.rows) m.rows 0 && ((m.k == 0) && ((m.l == 0) && decide ((m.rows.length : Int) ≤ 64))) else decide ((m.rows.length : Int) = 0)
theorem macOk_row {m : Mac} {i : Nat} {x : Mrw} (hu : m.use = true) (hx : m.rows[i]? = some x) (h : dp m.rows i x = false) : ad m = false := by
 unfold ad; rw [if_pos hu,allI_one hx h]; rfl
theorem rowOk_val {l : List Mrw} {i : Nat} {x : Mrw} (h : ¬ (0 ≤ x.value ∧ x.value ≤ 16777215)) : dp l i x = false := by
 unfold dp
 by_cases h0 : 0 ≤ x.value
 · rw [decide_eq_false (p := x.value ≤ 16777215) (by omega)]; simp
 · rw [decide_eq_false h0]; simp
theorem rowOk_dup {l : List Mrw} {i k : Nat} {x y : Mrw} (hk : k < i) (hy : l[k]? = some y) (h : (y.input.toList == x.input.toList) = true) : dp l i x = false := by
 unfold dp
 have : (l.take i).any (fun x' => x'.input.toList == x.input.toList) = true := List.any_eq_true.2 ⟨y,List.mem_of_getElem? (i := k) (by rw [List.getElem?_take,if_pos hk]; exact hy),h⟩
 rw [this]; simp
theorem any_take {l : List Mrw} {i k : Nat} {x : Mrw} (hk : k = i) (h : ∀ (j : Nat) (y : Mrw), j < k → l[j]? = some y → (y.input.toList == x.input.toList) = false) : (l.take i).any (fun x' => x'.input.toList == x.input.toList) = false := by
 rw [Bool.eq_false_iff]
 intro he
 obtain ⟨y,hy,hxy⟩ := List.any_eq_true.1 he
 obtain ⟨j,hj⟩ := List.getElem?_of_mem hy
 rw [List.getElem?_take] at hj
 split at hj
 · rename_i hji
   rw [h j y (by omega) hj] at hxy; cases hxy
 · cases hj
theorem rowOk_yes {l : List Mrw} {i : Nat} {x : Mrw} (h1 : 0 ≤ x.value ∧ x.value ≤ 16777215) (h : (l.take i).any (fun x' => x'.input.toList == x.input.toList) = false) : dp l i x = true := by
 unfold dp; rw [h,decide_eq_true h1.1,decide_eq_true h1.2]; rfl
end Go.Proofs.Ytfidgfddgmppdaa
