/- Contracts that this law needs, part 3. -/
import Derived.Test.YtccijpdjfelbmaaZ2
namespace Go.Proofs.Ytccijpdjfelbmaa
open Go.RowKit
set_option linter.unusedVariables false
set_option linter.unusedSimpArgs false
set_option maxRecDepth 100000
set_option maxHeartbeats 2000000

theorem ysConnNew_c (t : Tup) (iss : Int) (irs : Int) (o : Opt) (window : Int) (w : World)  (B : Nat) (hB : B ≤ w.heap.size) : Calls Try.prog 35 #[.agg (bV t).toArray, iI iss, iI irs, .agg (dI o).toArray, iI window] w fun e w' => XRs w w' e (α := Option Addr × Nat) (fun y => .agg (a6 (cY t iss irs o window) (.slice y.1 ((cY t iss irs o window).r.held.length) y.2)).toArray) (fun y => [aC B (.slice y.1 ((cY t iss irs o window).r.held.length) y.2) 2 ((cY t iss irs o window).r.held.map pC)]) := by
 refine bJ (args := [.agg (bV t).toArray,iI iss,iI irs,.agg (dI o).toArray,iI window]) (fn := Try.f35) [] Try.func35 rfl Try.ntmps35 rfl (by simp) ?_
 refine kQ <| cv [1,2,4,5,8,10] ⟨[(1,aI iss),(2,aI irs),(4,aI window),(5,.p 0 0),(8,.p 1 0),(10,.p 2 0)],[⟨30,bV t⟩,⟨48,dI o⟩,⟨50,ce⟩],[],[]⟩ <| kS <| kQ <| dZ 1 [1,2,4,5,8,10,12] [(12,.v (.agg (dI o).toArray))] 52 [.agg (dI o).toArray] (some 13) rfl (br fun ww hf => ge o.mss o.scale o.sack o.stamp o.val o.echo ww ) ?_
 intro _
 refine aU [1,2,4,5,8,10,14] [(14,aB (!(bL o)))] <| kC (!(bL o)) (fun h1 => ?_) (fun h1 => ?_)
 have h1n := co h1
 refine kG <| dZ 0 [1,2,4,5,8,10] [] 53 [] (some 15) rfl (br fun ww hf => eQ  ww ) ?_
 intro _
 refine ba [1,2,4,5,8,10] [] 1 ⟨48,[iI 0,iI (-1),.bool false,.bool false,iI 0,iI 0]⟩ <| kS <| kQ <| dZ 1 [1,2,4,5,8,10,16] [(16,aI window)] 54 [iI window,iI 16] (some 17) rfl (bF fun ww hf => dQ window ww) ?_
 intro _
 refine aU [1,2,4,5,8,10,18] [(18,aB (!(aR window 16)))] <| kC (!(aR window 16)) (fun h2 => ?_) (fun h2 => ?_)
 have h2n := co h2
 refine kG <| aU [1,2,4,5,8,10] [(4,aI 0)] <| kQ <| dZ 3 [1,2,5,8,10,19,21] [(19,aI 0),(21,aI (-1))] 55 [iI 0,iI (-1)] (some 22) rfl (bF fun ww hf => dE 0 (-1) ww ) ?_
 intro _
 refine fD 1 [1,2,5,8,10,19,23] [(23,.v (.int .u64 (IntKind.u64.wrap (max 0 (-1)))))] (iI (K6.wrap (0 * 2 ^ (IntKind.u64.wrap (max 0 (-1))).toNat))) rfl (fun _ _ _ ww hr => ck hr.1 rfl (by kernel_rfl) (by kernel_rfl) (shl_run (k' := .u64) (by have e : ((IntKind.i64.bits : Nat) : Int) = 64 := rfl; (try rw [ed (by omega) (by omega)]); omega) (by have e : ((IntKind.i64.bits : Nat) : Int) = 64 := rfl; (try rw [ed (by omega) (by omega)]); omega) ww)) ?_
 refine eo 1 [1,2,5,8,10,11] [(1,aI iss),(2,aI irs),(5,.p 0 0),(8,.p 1 0),(10,.p 2 0),(11,aI (K6.wrap (0 * 2 ^ (IntKind.u64.wrap (max 0 (-1))).toNat)))] <| gd (t' := [(1,aI iss),(2,aI irs),(5,.p 0 0),(8,.p 1 0),(10,.p 2 0),(11,aI (0 * 2 ^ (max 0 (-1) : Int).toNat))]) (by rw [show (IntKind.u64.wrap (max 0 (-1))) = (max 0 (-1) : Int) from ed (by omega) (by omega),show (K6.wrap (0 * 2 ^ (max 0 (-1) : Int).toNat)) = (0 * 2 ^ (max 0 (-1) : Int).toNat) from far_wrap (by omega) (by omega) (by omega) (by omega)]) ?_
 refine aU [1,2,5,8,10,11] [] <| kS <| bY [true,true,false] (by kernel_rfl) (fun ρ σ => ?_)
 refine cK [0,1,4,7,8,9] [34,33,32,29,26,25,10] 6 [(34,.v (.agg #[iI 0,iI (-1),.bool false,.bool false,iI 0,iI 0])),(33,aI (0 * 2 ^ (max 0 (-1) : Int).toNat)),(32,aI (0 * 2 ^ (max 0 (-1) : Int).toNat)),(29,aI irs),(26,aI iss),(25,.v (.agg (bV t).toArray)),(10,.p 2 0)] <| kA [2] <| d8 2 56 [iI iss,iI 1] (some 27) rfl (bF fun ww hf => bk iss 1 ww ) ?_
 intro _
 refine kX 3 (.agg #[iI (sA iss 1),.string (⟨#[]⟩ : ByteArray),iI 0,.bool false,.bool false,.bool false]) rfl (fun _ _ ww hA => aH [(0,iI (sA iss 1))] hA rfl (by kernel_rfl) (by kernel_rfl) ww) ?_
 refine kA [5] <| d8 5 56 [iI irs,iI 1] (some 30) rfl (bF fun ww hf => bk irs 1 ww ) ?_
 intro _
 refine kA [6] <| d8 6 57 [iI (sA irs 1)] (some 31) rfl (cm fun ww hw hf => dJ (sA irs 1) ww   w.heap.size hw) ?_
 rintro ⟨v3a,v3c⟩
 refine kX 10 (.agg #[iI t.ip,iI t.port,iI t.my,iI 1,iI (sA iss 1),.string (⟨#[]⟩ : ByteArray),iI 0,.bool false,.bool false,.bool false,iI ((rN (sA irs 1)).next),.string ((rN (sA irs 1)).data),.slice v3a ((rN (sA irs 1)).held.length) v3c,iI ((rN (sA irs 1)).fin),.bool ((rN (sA irs 1)).done),iI (0 * 2 ^ (max 0 (-1) : Int).toNat),iI (0 * 2 ^ (max 0 (-1) : Int).toNat),iI 0,iI (-1),.bool false,.bool false,iI 0,iI 0,iI 0,iI 0]) rfl (fun _ _ ww hA => aH [(0,.agg (bV t).toArray),(1,iI 1),(2,.agg #[iI (sA iss 1),.string (⟨#[]⟩ : ByteArray),iI 0,.bool false,.bool false,.bool false]),(3,.agg (ab (rN (sA irs 1)) (.slice v3a ((rN (sA irs 1)).held.length) v3c)).toArray),(4,iI (0 * 2 ^ (max 0 (-1) : Int).toNat)),(5,iI (0 * 2 ^ (max 0 (-1) : Int).toNat)),(6,.agg #[iI 0,iI (-1),.bool false,.bool false,iI 0,iI 0])] hA rfl (by kernel_rfl) (by kernel_rfl) ww) ?_
 refine kA [11] <| dp 11 2 0 [iI t.ip,iI t.port,iI t.my,iI 1,iI (sA iss 1),.string (⟨#[]⟩ : ByteArray),iI 0,.bool false,.bool false,.bool false,iI ((rN (sA irs 1)).next),.string ((rN (sA irs 1)).data),.slice v3a ((rN (sA irs 1)).held.length) v3c,iI ((rN (sA irs 1)).fin),.bool ((rN (sA irs 1)).done),iI (0 * 2 ^ (max 0 (-1) : Int).toNat),iI (0 * 2 ^ (max 0 (-1) : Int).toNat),iI 0,iI (-1),.bool false,.bool false,iI 0,iI 0,iI 0,iI 0] rfl <| kZ <| kR ?_
 have hmod : cY t iss irs o window = (⟨t,1,⟨sA iss 1,(⟨#[]⟩ : ByteArray),0,false,false,false⟩,(rN (sA irs 1)),0 * 2 ^ (max 0 (-1) : Int).toNat,0 * 2 ^ (max 0 (-1) : Int).toNat,⟨0,(-1),false,false,0,0⟩,0,0⟩) := by first | rfl | (simp [cY,cj,rN, *]; done) | grind [cY,cj,rN]
 exact ⟨[.agg #[iI t.ip,iI t.port,iI t.my,iI 1,iI (sA iss 1),.string (⟨#[]⟩ : ByteArray),iI 0,.bool false,.bool false,.bool false,iI ((rN (sA irs 1)).next),.string ((rN (sA irs 1)).data),.slice v3a ((rN (sA irs 1)).held.length) v3c,iI ((rN (sA irs 1)).fin),.bool ((rN (sA irs 1)).done),iI (0 * 2 ^ (max 0 (-1) : Int).toNat),iI (0 * 2 ^ (max 0 (-1) : Int).toNat),iI 0,iI (-1),.bool false,.bool false,iI 0,iI 0,iI 0,iI 0]],by kernel_rfl,fun w' hb hf ha => by rw [hmod]; exact xo1 ((v3a,v3c)) rfl rfl (pR (hf _ m0) hB) hb⟩
 have h2n := bj h2
 have h2nw := wordOk16_bd (by simpa using h2n)
 obtain ⟨h2nw0,h2nw1⟩ := h2nw
 refine kK <| kQ <| dZ 3 [1,2,5,8,10,19,21] [(19,aI window),(21,aI (-1))] 55 [iI 0,iI (-1)] (some 22) rfl (bF fun ww hf => dE 0 (-1) ww ) ?_
 intro _
 refine fD 1 [1,2,5,8,10,19,23] [(23,.v (.int .u64 (IntKind.u64.wrap (max 0 (-1)))))] (iI (K6.wrap (window * 2 ^ (IntKind.u64.wrap (max 0 (-1))).toNat))) rfl (fun _ _ _ ww hr => ck hr.1 rfl (by kernel_rfl) (by kernel_rfl) (shl_run (k' := .u64) (by have e : ((IntKind.i64.bits : Nat) : Int) = 64 := rfl; (try rw [ed (by omega) (by omega)]); omega) (by have e : ((IntKind.i64.bits : Nat) : Int) = 64 := rfl; (try rw [ed (by omega) (by omega)]); omega) ww)) ?_
 refine dK 1 [1,2,5,8,10,11] [(11,aI (K6.wrap (window * 2 ^ (IntKind.u64.wrap (max 0 (-1))).toNat)))] <| cJ [1,2,5,8,10,11] [(11,aI (K6.wrap (window * 2 ^ (IntKind.u64.wrap (max 0 (-1))).toNat)))] [(11,aI (window * 2 ^ (max 0 (-1) : Int).toNat))] (by rw [show (IntKind.u64.wrap (max 0 (-1))) = (max 0 (-1) : Int) from ed (by omega) (by omega),show (K6.wrap (window * 2 ^ (max 0 (-1) : Int).toNat)) = (window * 2 ^ (max 0 (-1) : Int).toNat) from far_wrap (by omega) (by omega) (by omega) (by omega)]) (by kernel_rfl) ?_
 refine aD [1,2,5,8,10,11] [(1,aI iss),(2,aI irs),(5,.p 0 0),(8,.p 1 0),(10,.p 2 0),(11,aI (window * 2 ^ (max 0 (-1) : Int).toNat))] <| kS <| bY [true,true,false] (by kernel_rfl) (fun ρ σ => ?_)
 refine cK [0,1,4,7,8,9] [34,33,32,29,26,25,10] 6 [(34,.v (.agg #[iI 0,iI (-1),.bool false,.bool false,iI 0,iI 0])),(33,aI (window * 2 ^ (max 0 (-1) : Int).toNat)),(32,aI (window * 2 ^ (max 0 (-1) : Int).toNat)),(29,aI irs),(26,aI iss),(25,.v (.agg (bV t).toArray)),(10,.p 2 0)] <| kA [2] <| d8 2 56 [iI iss,iI 1] (some 27) rfl (bF fun ww hf => bk iss 1 ww ) ?_
 intro _
 refine kX 3 (.agg #[iI (sA iss 1),.string (⟨#[]⟩ : ByteArray),iI 0,.bool false,.bool false,.bool false]) rfl (fun _ _ ww hA => aH [(0,iI (sA iss 1))] hA rfl (by kernel_rfl) (by kernel_rfl) ww) ?_
 refine kA [5] <| d8 5 56 [iI irs,iI 1] (some 30) rfl (bF fun ww hf => bk irs 1 ww ) ?_
 intro _
 refine kA [6] <| d8 6 57 [iI (sA irs 1)] (some 31) rfl (cm fun ww hw hf => dJ (sA irs 1) ww   w.heap.size hw) ?_
 rintro ⟨v4a,v4c⟩
 refine kX 10 (.agg #[iI t.ip,iI t.port,iI t.my,iI 1,iI (sA iss 1),.string (⟨#[]⟩ : ByteArray),iI 0,.bool false,.bool false,.bool false,iI ((rN (sA irs 1)).next),.string ((rN (sA irs 1)).data),.slice v4a ((rN (sA irs 1)).held.length) v4c,iI ((rN (sA irs 1)).fin),.bool ((rN (sA irs 1)).done),iI (window * 2 ^ (max 0 (-1) : Int).toNat),iI (window * 2 ^ (max 0 (-1) : Int).toNat),iI 0,iI (-1),.bool false,.bool false,iI 0,iI 0,iI 0,iI 0]) rfl (fun _ _ ww hA => aH [(0,.agg (bV t).toArray),(1,iI 1),(2,.agg #[iI (sA iss 1),.string (⟨#[]⟩ : ByteArray),iI 0,.bool false,.bool false,.bool false]),(3,.agg (ab (rN (sA irs 1)) (.slice v4a ((rN (sA irs 1)).held.length) v4c)).toArray),(4,iI (window * 2 ^ (max 0 (-1) : Int).toNat)),(5,iI (window * 2 ^ (max 0 (-1) : Int).toNat)),(6,.agg #[iI 0,iI (-1),.bool false,.bool false,iI 0,iI 0])] hA rfl (by kernel_rfl) (by kernel_rfl) ww) ?_
 refine kA [11] <| dp 11 2 0 [iI t.ip,iI t.port,iI t.my,iI 1,iI (sA iss 1),.string (⟨#[]⟩ : ByteArray),iI 0,.bool false,.bool false,.bool false,iI ((rN (sA irs 1)).next),.string ((rN (sA irs 1)).data),.slice v4a ((rN (sA irs 1)).held.length) v4c,iI ((rN (sA irs 1)).fin),.bool ((rN (sA irs 1)).done),iI (window * 2 ^ (max 0 (-1) : Int).toNat),iI (window * 2 ^ (max 0 (-1) : Int).toNat),iI 0,iI (-1),.bool false,.bool false,iI 0,iI 0,iI 0,iI 0] rfl <| kZ <| kR ?_
 have hmod : cY t iss irs o window = (⟨t,1,⟨sA iss 1,(⟨#[]⟩ : ByteArray),0,false,false,false⟩,(rN (sA irs 1)),window * 2 ^ (max 0 (-1) : Int).toNat,window * 2 ^ (max 0 (-1) : Int).toNat,⟨0,(-1),false,false,0,0⟩,0,0⟩) := by first | rfl | (simp [cY,cj,rN, *]; done) | grind [cY,cj,rN]
 exact ⟨[.agg #[iI t.ip,iI t.port,iI t.my,iI 1,iI (sA iss 1),.string (⟨#[]⟩ : ByteArray),iI 0,.bool false,.bool false,.bool false,iI ((rN (sA irs 1)).next),.string ((rN (sA irs 1)).data),.slice v4a ((rN (sA irs 1)).held.length) v4c,iI ((rN (sA irs 1)).fin),.bool ((rN (sA irs 1)).done),iI (window * 2 ^ (max 0 (-1) : Int).toNat),iI (window * 2 ^ (max 0 (-1) : Int).toNat),iI 0,iI (-1),.bool false,.bool false,iI 0,iI 0,iI 0,iI 0]],by kernel_rfl,fun w' hb hf ha => by rw [hmod]; exact xo1 ((v4a,v4c)) rfl rfl (pR (hf _ m0) hB) hb⟩
 have h1n := bj h1
 have h1nw := gk (by simpa using h1n)
 obtain ⟨h1nw0,h1nw1⟩ := h1nw
 refine kK <| kS <| kQ <| dZ 1 [1,2,4,5,8,10,16] [(16,aI window)] 54 [iI window,iI 16] (some 17) rfl (bF fun ww hf => dQ window ww) ?_
 intro _
 refine aU [1,2,4,5,8,10,18] [(18,aB (!(aR window 16)))] <| kC (!(aR window 16)) (fun h5 => ?_) (fun h5 => ?_)
 have h5n := co h5
 refine kG <| aU [1,2,4,5,8,10] [(4,aI 0)] <| kQ <| dZ 3 [1,2,5,8,10,19,21] [(19,aI 0),(21,aI o.scale)] 55 [iI 0,iI o.scale] (some 22) rfl (bF fun ww hf => dE 0 o.scale ww ) ?_
 intro _
 refine fD 1 [1,2,5,8,10,19,23] [(23,.v (.int .u64 (IntKind.u64.wrap (max 0 o.scale))))] (iI (K6.wrap (0 * 2 ^ (IntKind.u64.wrap (max 0 o.scale)).toNat))) rfl (fun _ _ _ ww hr => ck hr.1 rfl (by kernel_rfl) (by kernel_rfl) (shl_run (k' := .u64) (by have e : ((IntKind.i64.bits : Nat) : Int) = 64 := rfl; (try rw [ed (by omega) (by omega)]); omega) (by have e : ((IntKind.i64.bits : Nat) : Int) = 64 := rfl; (try rw [ed (by omega) (by omega)]); omega) ww)) ?_
 refine dK 1 [1,2,5,8,10,11] [(11,aI (K6.wrap (0 * 2 ^ (IntKind.u64.wrap (max 0 o.scale)).toNat)))] <| cJ [1,2,5,8,10,11] [(11,aI (K6.wrap (0 * 2 ^ (IntKind.u64.wrap (max 0 o.scale)).toNat)))] [(11,aI (0 * 2 ^ (max 0 o.scale).toNat))] (by rw [show (IntKind.u64.wrap (max 0 o.scale)) = (max 0 o.scale) from ed (by omega) (by omega),show (K6.wrap (0 * 2 ^ (max 0 o.scale).toNat)) = (0 * 2 ^ (max 0 o.scale).toNat) from far_wrap (by omega) (by omega) (by omega) (by omega)]) (by kernel_rfl) ?_
 refine aU [1,2,5,8,10,11] [] <| kS <| bY [true,true,false] (by kernel_rfl) (fun ρ σ => ?_)
 refine cK [0,1,4,7,8,9] [34,33,32,29,26,25,10] 6 [(34,.v (.agg (dI o).toArray)),(33,aI (0 * 2 ^ (max 0 o.scale).toNat)),(32,aI (0 * 2 ^ (max 0 o.scale).toNat)),(29,aI irs),(26,aI iss),(25,.v (.agg (bV t).toArray)),(10,.p 2 0)] <| kA [2] <| d8 2 56 [iI iss,iI 1] (some 27) rfl (bF fun ww hf => bk iss 1 ww ) ?_
 intro _
 refine kX 3 (.agg #[iI (sA iss 1),.string (⟨#[]⟩ : ByteArray),iI 0,.bool false,.bool false,.bool false]) rfl (fun _ _ ww hA => aH [(0,iI (sA iss 1))] hA rfl (by kernel_rfl) (by kernel_rfl) ww) ?_
 refine kA [5] <| d8 5 56 [iI irs,iI 1] (some 30) rfl (bF fun ww hf => bk irs 1 ww ) ?_
 intro _
 refine kA [6] <| d8 6 57 [iI (sA irs 1)] (some 31) rfl (cm fun ww hw hf => dJ (sA irs 1) ww   w.heap.size hw) ?_
 rintro ⟨v6a,v6c⟩
 refine kX 10 (.agg #[iI t.ip,iI t.port,iI t.my,iI 1,iI (sA iss 1),.string (⟨#[]⟩ : ByteArray),iI 0,.bool false,.bool false,.bool false,iI ((rN (sA irs 1)).next),.string ((rN (sA irs 1)).data),.slice v6a ((rN (sA irs 1)).held.length) v6c,iI ((rN (sA irs 1)).fin),.bool ((rN (sA irs 1)).done),iI (0 * 2 ^ (max 0 o.scale).toNat),iI (0 * 2 ^ (max 0 o.scale).toNat),iI o.mss,iI o.scale,.bool o.sack,.bool o.stamp,iI o.val,iI o.echo,iI 0,iI 0]) rfl (fun _ _ ww hA => aH [(0,.agg (bV t).toArray),(1,iI 1),(2,.agg #[iI (sA iss 1),.string (⟨#[]⟩ : ByteArray),iI 0,.bool false,.bool false,.bool false]),(3,.agg (ab (rN (sA irs 1)) (.slice v6a ((rN (sA irs 1)).held.length) v6c)).toArray),(4,iI (0 * 2 ^ (max 0 o.scale).toNat)),(5,iI (0 * 2 ^ (max 0 o.scale).toNat)),(6,.agg (dI o).toArray)] hA rfl (by kernel_rfl) (by kernel_rfl) ww) ?_
 refine kA [11] <| dp 11 2 0 [iI t.ip,iI t.port,iI t.my,iI 1,iI (sA iss 1),.string (⟨#[]⟩ : ByteArray),iI 0,.bool false,.bool false,.bool false,iI ((rN (sA irs 1)).next),.string ((rN (sA irs 1)).data),.slice v6a ((rN (sA irs 1)).held.length) v6c,iI ((rN (sA irs 1)).fin),.bool ((rN (sA irs 1)).done),iI (0 * 2 ^ (max 0 o.scale).toNat),iI (0 * 2 ^ (max 0 o.scale).toNat),iI o.mss,iI o.scale,.bool o.sack,.bool o.stamp,iI o.val,iI o.echo,iI 0,iI 0] rfl <| kZ <| kR ?_
 have hmod : cY t iss irs o window = (⟨t,1,⟨sA iss 1,(⟨#[]⟩ : ByteArray),0,false,false,false⟩,(rN (sA irs 1)),0 * 2 ^ (max 0 o.scale).toNat,0 * 2 ^ (max 0 o.scale).toNat,o,0,0⟩) := by first | rfl | (simp [cY,cj,rN, *]; done) | grind [cY,cj,rN]
 exact ⟨[.agg #[iI t.ip,iI t.port,iI t.my,iI 1,iI (sA iss 1),.string (⟨#[]⟩ : ByteArray),iI 0,.bool false,.bool false,.bool false,iI ((rN (sA irs 1)).next),.string ((rN (sA irs 1)).data),.slice v6a ((rN (sA irs 1)).held.length) v6c,iI ((rN (sA irs 1)).fin),.bool ((rN (sA irs 1)).done),iI (0 * 2 ^ (max 0 o.scale).toNat),iI (0 * 2 ^ (max 0 o.scale).toNat),iI o.mss,iI o.scale,.bool o.sack,.bool o.stamp,iI o.val,iI o.echo,iI 0,iI 0]],by kernel_rfl,fun w' hb hf ha => by rw [hmod]; exact xo1 ((v6a,v6c)) rfl rfl (pR (hf _ m0) hB) hb⟩
 have h5n := bj h5
 have h5nw := wordOk16_bd (by simpa using h5n)
 obtain ⟨h5nw0,h5nw1⟩ := h5nw
 refine kK <| kQ <| dZ 3 [1,2,5,8,10,19,21] [(19,aI window),(21,aI o.scale)] 55 [iI 0,iI o.scale] (some 22) rfl (bF fun ww hf => dE 0 o.scale ww ) ?_
 intro _
 refine fD 1 [1,2,5,8,10,19,23] [(23,.v (.int .u64 (IntKind.u64.wrap (max 0 o.scale))))] (iI (K6.wrap (window * 2 ^ (IntKind.u64.wrap (max 0 o.scale)).toNat))) rfl (fun _ _ _ ww hr => ck hr.1 rfl (by kernel_rfl) (by kernel_rfl) (shl_run (k' := .u64) (by have e : ((IntKind.i64.bits : Nat) : Int) = 64 := rfl; (try rw [ed (by omega) (by omega)]); omega) (by have e : ((IntKind.i64.bits : Nat) : Int) = 64 := rfl; (try rw [ed (by omega) (by omega)]); omega) ww)) ?_
 refine dK 1 [1,2,5,8,10,11] [(11,aI (K6.wrap (window * 2 ^ (IntKind.u64.wrap (max 0 o.scale)).toNat)))] <| cJ [1,2,5,8,10,11] [(11,aI (K6.wrap (window * 2 ^ (IntKind.u64.wrap (max 0 o.scale)).toNat)))] [(11,aI (window * 2 ^ (max 0 o.scale).toNat))] (by rw [show (IntKind.u64.wrap (max 0 o.scale)) = (max 0 o.scale) from ed (by omega) (by omega),show (K6.wrap (window * 2 ^ (max 0 o.scale).toNat)) = (window * 2 ^ (max 0 o.scale).toNat) from far_wrap (by omega) (by omega) (by omega) (by omega)]) (by kernel_rfl) ?_
 refine aU [1,2,5,8,10,11] [] <| kS <| bY [true,true,false] (by kernel_rfl) (fun ρ σ => ?_)
 refine cK [0,1,4,7,8,9] [34,33,32,29,26,25,10] 6 [(34,.v (.agg (dI o).toArray)),(33,aI (window * 2 ^ (max 0 o.scale).toNat)),(32,aI (window * 2 ^ (max 0 o.scale).toNat)),(29,aI irs),(26,aI iss),(25,.v (.agg (bV t).toArray)),(10,.p 2 0)] <| kA [2] <| d8 2 56 [iI iss,iI 1] (some 27) rfl (bF fun ww hf => bk iss 1 ww ) ?_
 intro _
 refine kX 3 (.agg #[iI (sA iss 1),.string (⟨#[]⟩ : ByteArray),iI 0,.bool false,.bool false,.bool false]) rfl (fun _ _ ww hA => aH [(0,iI (sA iss 1))] hA rfl (by kernel_rfl) (by kernel_rfl) ww) ?_
 refine kA [5] <| d8 5 56 [iI irs,iI 1] (some 30) rfl (bF fun ww hf => bk irs 1 ww ) ?_
 intro _
 refine kA [6] <| d8 6 57 [iI (sA irs 1)] (some 31) rfl (cm fun ww hw hf => dJ (sA irs 1) ww   w.heap.size hw) ?_
 rintro ⟨v7a,v7c⟩
 refine kX 10 (.agg #[iI t.ip,iI t.port,iI t.my,iI 1,iI (sA iss 1),.string (⟨#[]⟩ : ByteArray),iI 0,.bool false,.bool false,.bool false,iI ((rN (sA irs 1)).next),.string ((rN (sA irs 1)).data),.slice v7a ((rN (sA irs 1)).held.length) v7c,iI ((rN (sA irs 1)).fin),.bool ((rN (sA irs 1)).done),iI (window * 2 ^ (max 0 o.scale).toNat),iI (window * 2 ^ (max 0 o.scale).toNat),iI o.mss,iI o.scale,.bool o.sack,.bool o.stamp,iI o.val,iI o.echo,iI 0,iI 0]) rfl (fun _ _ ww hA => aH [(0,.agg (bV t).toArray),(1,iI 1),(2,.agg #[iI (sA iss 1),.string (⟨#[]⟩ : ByteArray),iI 0,.bool false,.bool false,.bool false]),(3,.agg (ab (rN (sA irs 1)) (.slice v7a ((rN (sA irs 1)).held.length) v7c)).toArray),(4,iI (window * 2 ^ (max 0 o.scale).toNat)),(5,iI (window * 2 ^ (max 0 o.scale).toNat)),(6,.agg (dI o).toArray)] hA rfl (by kernel_rfl) (by kernel_rfl) ww) ?_
 refine kA [11] <| dp 11 2 0 [iI t.ip,iI t.port,iI t.my,iI 1,iI (sA iss 1),.string (⟨#[]⟩ : ByteArray),iI 0,.bool false,.bool false,.bool false,iI ((rN (sA irs 1)).next),.string ((rN (sA irs 1)).data),.slice v7a ((rN (sA irs 1)).held.length) v7c,iI ((rN (sA irs 1)).fin),.bool ((rN (sA irs 1)).done),iI (window * 2 ^ (max 0 o.scale).toNat),iI (window * 2 ^ (max 0 o.scale).toNat),iI o.mss,iI o.scale,.bool o.sack,.bool o.stamp,iI o.val,iI o.echo,iI 0,iI 0] rfl <| kZ <| kR ?_
 have hmod : cY t iss irs o window = (⟨t,1,⟨sA iss 1,(⟨#[]⟩ : ByteArray),0,false,false,false⟩,(rN (sA irs 1)),window * 2 ^ (max 0 o.scale).toNat,window * 2 ^ (max 0 o.scale).toNat,o,0,0⟩) := by first | rfl | (simp [cY,cj,rN, *]; done) | grind [cY,cj,rN]
 exact ⟨[.agg #[iI t.ip,iI t.port,iI t.my,iI 1,iI (sA iss 1),.string (⟨#[]⟩ : ByteArray),iI 0,.bool false,.bool false,.bool false,iI ((rN (sA irs 1)).next),.string ((rN (sA irs 1)).data),.slice v7a ((rN (sA irs 1)).held.length) v7c,iI ((rN (sA irs 1)).fin),.bool ((rN (sA irs 1)).done),iI (window * 2 ^ (max 0 o.scale).toNat),iI (window * 2 ^ (max 0 o.scale).toNat),iI o.mss,iI o.scale,.bool o.sack,.bool o.stamp,iI o.val,iI o.echo,iI 0,iI 0]],by kernel_rfl,fun w' hb hf ha => by rw [hmod]; exact xo1 ((v7a,v7c)) rfl rfl (pR (hf _ m0) hB) hb⟩
theorem ysHeard_c (c : Con) (rV : Value) (g : Seg) (w : World) (hZ : Sl w rV 2 (c.r.held.map pC)) (hkn : c.r.held.length ≤ 1048576)(hgz : g.body.size ≤ 1048576) (hm : ∀ p ∈ c.r.held, p.text.size ≤ 1048576) (hsz : c.r.data.size ≤ 4611686018427387904) (B : Nat) (hB : B ≤ w.heap.size) : Calls Try.prog 68 #[.agg (a6 c rV).toArray, .agg (bE g).toArray] w fun e w' => XRs w w' e (α := Option Addr × Nat) (fun y => .agg (a6 (heard c g) (.slice y.1 ((heard c g).r.held.length) y.2)).toArray) (fun y => [aC B (.slice y.1 ((heard c g).r.held.length) y.2) 2 ((heard c g).r.held.map pC)]) := by
 obtain ⟨Z,Y,hY⟩ := hZ.form
 rw [List.length_map] at hY; subst hY
 have hJ := hZ.len; rw [List.length_map] at hJ
 have hqcrh := Sl.capLe hZ
 refine bJ (args := [.agg (a6 c (cS Z c Y)).toArray,.agg (bE g).toArray]) (fn := Try.f68) [cH Z c Y] Try.func68 rfl Try.ntmps68 rfl (by simp only [List.mem_cons,List.not_mem_nil,or_false,forall_eq_or_imp,forall_eq]; exact ⟨rfl,hZ⟩) ?_
 refine kQ <| cv [2,3,4] ⟨[(2,.p 0 0),(3,.p 1 0),(4,.p 2 0)],[⟨50,a6 c (cS Z c Y)⟩,⟨85,bE g⟩,⟨50,ce⟩],[],[cH Z c Y]⟩ <| kQ <| dZ 1 [2,3,4,9] [(9,.v (.agg (a6 c (cS Z c Y)).toArray))] 22 [.agg (a6 c (cS Z c Y)).toArray] (some 10) rfl (cm fun ww hw hf => cV c (cS Z c Y) ww (hf _ m0) (by assumption) w.heap.size hw) ?_
 rintro ⟨v1a,v1c⟩
 refine kEA [2,3,4,5] [(5,.p 3 0)] [⟨50,a6 c (cS v1a c v1c)⟩] <| kS <| kQ <| dZ 2 [2,3,4,5,11,12] [(11,.v (.agg (a6 c (cS Z c Y)).toArray)),(12,.v (.agg (bE g).toArray))] 66 [.agg (a6 c (cS Z c Y)).toArray,.agg (bE g).toArray] (some 13) rfl (br fun ww hf => ysVerdict_c c (cS Z c Y) g ww (hf _ m1) (by omega) (by assumption) (by omega)) ?_
 intro _
 refine aU [2,3,4,5,14] [(14,aB ((ax c g) != 5))] <| kC ((ax c g) != 5) (fun h2 => ?_) (fun h2 => ?_)
 have h2p := neT h2
 have hv5 : ¬ ax c g = 5 := by simpa using h2
 refine kQ <| ba [4] [(4,.p 2 0)] 2 ⟨50,a6 c (cS v1a c v1c)⟩ <| kR ?_
 have hmod : heard c g = c := by first | (unfold heard; rw [if_pos hv5,← hm5]; unfold fq; rw [if_pos (by assumption)]; done) | (unfold heard; rw [if_pos hv5,← hm5]; unfold fq; rw [if_neg (by simp [*]; done),← hmr]; done) | (unfold heard; rw [if_neg hv5]; done)
 exact ⟨[.agg (a6 c (cS v1a c v1c)).toArray],by kernel_rfl,fun w' hb hf ha => by rw [hmod]; exact xo1 ((v1a,v1c)) rfl rfl (pO (hf _ m0) hB) hb⟩
 have h2p := neF h2
 have hv5 : ax c g = 5 := by simpa using h2
 obtain ⟨hc1,hc2,hc3,-⟩ := verdict_fine hv5
 have hgw := segmentOk_w hc3
 have hsc := gk (conOk_r hc1).2.1
 have hfw := farW_bd hgw (conOk_r hc1).2.1
 refine kK <| kQ <| dZ 4 [2,3,4,5,18,20] [(18,.v (.agg (am c.s).toArray)),(20,aI g.ack)] 80 [.agg (am c.s).toArray,iI g.ack] (some 21) rfl (br fun ww hf => ysAcked_c c.s g.ack ww  ) ?_
 intro _
 refine kEA [2,3,4,5,6,7] [(6,.p 4 0),(7,aB ((aK c.s g.ack).2))] [⟨43,am (aK c.s g.ack).1⟩] <| kS <| d9 (α := {zz : Con // (fun (m : Con) => m = cP c g) zz}) (fun zz => (fun (m : Con) => (⟨[(2,.p 0 0),(3,.p 1 0),(4,.p 2 0),(5,.p 3 0)],[⟨50,a6 c (cS Z c Y)⟩,⟨85,bE g⟩,⟨50,ce⟩,⟨50,a6 m (cS v1a m v1c)⟩,⟨43,am (aK c.s g.ack).1⟩],[],[aC w.heap.size (cS v1a m v1c) 2 (m.r.held.map pC),cH Z c Y]⟩ : St)) zz.1) ?_ ?_
 refine kQ <| aU [2,3,4,5,6,24] [(24,aB ((aK c.s g.ack).2))] <| kC ((aK c.s g.ack).2) (fun h3 => ?_) (fun h3 => ?_)
 refine kQ <| ba [2,3,4,5,6] [] 3 ⟨50,a6 { c with s := (aK c.s g.ack).1 } (cS v1a c v1c)⟩ <| kS <| bw [true,true,true,false,true] (by kernel_rfl) (fun ρ σ => ?_)
 refine cK [0,1,2,3,4] [31,28,2,3,4,5,6] 6 [(31,aI c.o.scale),(28,aI g.window),(2,.p 0 0),(3,.p 1 0),(4,.p 2 0),(5,.p 3 0),(6,.p 4 0)] <| kA [5] <| d8 5 55 [iI 0,iI c.o.scale] (some 32) rfl (bF fun ww hf => dE 0 c.o.scale ww ) ?_
 intro _
 refine cK [6] [33,28,2,3,4,5,6] 4 [(33,.v (.int .u64 (IntKind.u64.wrap (max 0 c.o.scale)))),(28,aI g.window),(2,.p 0 0),(3,.p 1 0),(4,.p 2 0),(5,.p 3 0),(6,.p 4 0)] <| xe_nv [33,28,2,3,4,5,6] [(33,.v (.int .u64 (IntKind.u64.wrap (max 0 c.o.scale))))] [(33,.v (.int .u64 (max 0 c.o.scale)))] (by rw [show (IntKind.u64.wrap (max 0 c.o.scale)) = (max 0 c.o.scale) from ed (by omega) (by omega)]) (by kernel_rfl) ?_
 refine kX 7 (iI (K6.wrap (g.window * 2 ^ (max 0 c.o.scale).toNat))) rfl (fun _ _ ww hA => ck hA rfl (by kernel_rfl) (by kernel_rfl) (shl_run (k' := .u64) (by have e : ((IntKind.i64.bits : Nat) : Int) = 64 := rfl; (try rw [ed (by omega) (by omega)]); omega) (by have e : ((IntKind.i64.bits : Nat) : Int) = 64 := rfl; (try rw [ed (by omega) (by omega)]); omega) ww)) ?_
 refine xe_nv [34,33,28,2,3,4,5,6] [(34,aI (K6.wrap (g.window * 2 ^ (max 0 c.o.scale).toNat)))] [(34,aI (cj g.window c.o))] (by rw [show (K6.wrap (g.window * 2 ^ (max 0 c.o.scale).toNat)) = (cj g.window c.o) from (by unfold cj; exact far_wrap (by omega) (by omega) (by omega) (by omega))]) (by kernel_rfl) ?_
 refine kA [8] <| d8 8 88 [iI 1073725440,iI (cj g.window c.o)] (some 35) rfl (bF fun ww hf => fG 1073725440 (cj g.window c.o) ww ) ?_
 intro _
 refine xe_nv [35,34,33,28,2,3,4,5,6] [(35,aI (min 1073725440 (cj g.window c.o)))] [(35,aI (cj g.window c.o))] (by rw [show (min 1073725440 (cj g.window c.o)) = (cj g.window c.o) from (by omega)]) (by kernel_rfl) ?_
 refine cK [9] [36,35,2,3,4,5,6] 1 [(36,.p 3 15),(35,aI (cj g.window c.o)),(2,.p 0 0),(3,.p 1 0),(4,.p 2 0),(5,.p 3 0),(6,.p 4 0)] <| kA [10] <| dp 10 3 15 [iI (cj g.window c.o)] rfl <| kZ <| kQ <| dZ 4 [2,3,4,5,6,38,40] [(38,aI c.most),(40,aI (cj g.window c.o))] 55 [iI c.most,iI (cj g.window c.o)] (some 41) rfl (bF fun ww hf => dE c.most (cj g.window c.o) ww ) ?_
 intro _
 refine ba [2,3,4,5,6] [] 3 ⟨50,a6 { c with s := (aK c.s g.ack).1,window := cj g.window c.o,most := max c.most (cj g.window c.o) } (cS v1a c v1c)⟩ <| kQ <| dZ 1 [2,3,4,5,6,43] [(43,.v (.agg (am (aK c.s g.ack).1).toArray))] 71 [.agg (am (aK c.s g.ack).1).toArray] (some 44) rfl (br fun ww hf => dY ((aK c.s g.ack).1.una) ((aK c.s g.ack).1.data) ((aK c.s g.ack).1.sent) ((aK c.s g.ack).1.fin) ((aK c.s g.ack).1.finSent) ((aK c.s g.ack).1.done) ww ) ?_
 intro _
 refine aU [2,3,4,5,6,8] [(8,aI (af ((aK c.s g.ack).1)))] <| kQ <| dK 7 [2,3,4,5,8,51] [(51,aB (((aK c.s g.ack).1.una) != c.s.una))] <| kP 51 (((aK c.s g.ack).1.una) != c.s.una) (fun h4 => ?_) (fun h4 => ?_)
 have h4p := neT h4
 refine aU [2,3,4,5,8,59] [(59,aB (c.state != 7))] <| kC (c.state != 7) (fun h5 => ?_) (fun h5 => ?_)
 have h5p := neT h5
 refine kQ <| ba [2,3,4,5,8] [] 3 ⟨50,a6 { c with s := (aK c.s g.ack).1,window := cj g.window c.o,most := max c.most (cj g.window c.o),tries := 0 } (cS v1a c v1c)⟩ <| kQ <| ba [2,3,4,5,8] [] 3 ⟨50,[iI c.t.ip,iI c.t.port,iI c.t.my,iI c.state,iI ((aK c.s g.ack).1.una),.string ((aK c.s g.ack).1.data),iI ((aK c.s g.ack).1.sent),.bool ((aK c.s g.ack).1.fin),.bool ((aK c.s g.ack).1.finSent),.bool ((aK c.s g.ack).1.done),iI c.r.next,.string c.r.data,.slice v1a c.r.held.length v1c,iI c.r.fin,.bool c.r.done,iI (cj g.window c.o),iI (max c.most (cj g.window c.o)),iI c.o.mss,iI c.o.scale,.bool c.o.sack,.bool c.o.stamp,iI c.o.val,iI c.o.echo,iI 0,iI 0]⟩ ?_
 refine kQ <| aU [2,3,4,5,63] [(63,aB (decide ((af ((aK c.s g.ack).1)) > 0)))] <| kC (decide ((af ((aK c.s g.ack).1)) > 0)) (fun h6 => ?_) (fun h6 => ?_)
 have h6p := of_decide_eq_true h6
 refine kG <| ba [2,3,4,5] [] 3 ⟨50,[iI c.t.ip,iI c.t.port,iI c.t.my,iI c.state,iI ((aK c.s g.ack).1.una),.string ((aK c.s g.ack).1.data),iI ((aK c.s g.ack).1.sent),.bool ((aK c.s g.ack).1.fin),.bool ((aK c.s g.ack).1.finSent),.bool ((aK c.s g.ack).1.done),iI c.r.next,.string c.r.data,.slice v1a c.r.held.length v1c,iI c.r.fin,.bool c.r.done,iI (cj g.window c.o),iI (max c.most (cj g.window c.o)),iI c.o.mss,iI c.o.scale,.bool c.o.sack,.bool c.o.stamp,iI c.o.val,iI c.o.echo,iI 3,iI 0]⟩ ?_
 exact ⟨⟨(⟨c.t,c.state,(aK c.s g.ack).1,c.r,cj g.window c.o,max c.most (cj g.window c.o),c.o,3,0⟩),(by unfold cP; first | (simp [*]; done) | grind)⟩,kF 5 0 [2,3,4,5]⟩
 have h6p := of_decide_eq_false h6
 refine kK ?_
 exact ⟨⟨(⟨c.t,c.state,(aK c.s g.ack).1,c.r,cj g.window c.o,max c.most (cj g.window c.o),c.o,0,0⟩),(by unfold cP; first | (simp [*]; done) | grind)⟩,kF 5 0 [2,3,4,5]⟩
 have h5p := neF h5
 refine kK ?_
 exact ⟨⟨({ c with s := (aK c.s g.ack).1,window := cj g.window c.o,most := max c.most (cj g.window c.o) }),(by unfold cP; first | (simp [*]; done) | grind)⟩,kF 5 0 [2,3,4,5]⟩
 have h4p := neF h4
 refine dK 4 [2,3,4,5,8,55] [(55,aB ((af ((aK c.s g.ack).1)) == 0))] <| kP 55 ((af ((aK c.s g.ack).1)) == 0) (fun h7 => ?_) (fun h7 => ?_)
 have h7p := cN h7
 refine aU [2,3,4,5,8,59] [(59,aB (c.state != 7))] <| kC (c.state != 7) (fun h8 => ?_) (fun h8 => ?_)
 have h8p := neT h8
 refine kQ <| ba [2,3,4,5,8] [] 3 ⟨50,a6 { c with s := (aK c.s g.ack).1,window := cj g.window c.o,most := max c.most (cj g.window c.o),tries := 0 } (cS v1a c v1c)⟩ <| kQ <| ba [2,3,4,5,8] [] 3 ⟨50,[iI c.t.ip,iI c.t.port,iI c.t.my,iI c.state,iI ((aK c.s g.ack).1.una),.string ((aK c.s g.ack).1.data),iI ((aK c.s g.ack).1.sent),.bool ((aK c.s g.ack).1.fin),.bool ((aK c.s g.ack).1.finSent),.bool ((aK c.s g.ack).1.done),iI c.r.next,.string c.r.data,.slice v1a c.r.held.length v1c,iI c.r.fin,.bool c.r.done,iI (cj g.window c.o),iI (max c.most (cj g.window c.o)),iI c.o.mss,iI c.o.scale,.bool c.o.sack,.bool c.o.stamp,iI c.o.val,iI c.o.echo,iI 0,iI 0]⟩ ?_
 refine kQ <| aU [2,3,4,5,63] [(63,aB (decide ((af ((aK c.s g.ack).1)) > 0)))] <| kC (decide ((af ((aK c.s g.ack).1)) > 0)) (fun h9 => ?_) (fun h9 => ?_)
 have h9p := of_decide_eq_true h9
 refine kG <| cv [2,3,4,5] ⟨[(2,.p 0 0),(3,.p 1 0),(4,.p 2 0),(5,.p 3 0)],[⟨50,a6 c (cS Z c Y)⟩,⟨85,bE g⟩,⟨50,ce⟩,⟨50,[iI c.t.ip,iI c.t.port,iI c.t.my,iI c.state,iI ((aK c.s g.ack).1.una),.string ((aK c.s g.ack).1.data),iI ((aK c.s g.ack).1.sent),.bool ((aK c.s g.ack).1.fin),.bool ((aK c.s g.ack).1.finSent),.bool ((aK c.s g.ack).1.done),iI c.r.next,.string c.r.data,.slice v1a c.r.held.length v1c,iI c.r.fin,.bool c.r.done,iI (cj g.window c.o),iI (max c.most (cj g.window c.o)),iI c.o.mss,iI c.o.scale,.bool c.o.sack,.bool c.o.stamp,iI c.o.val,iI c.o.echo,iI 3,iI 0]⟩,⟨43,am (aK c.s g.ack).1⟩],[],[aC w.heap.size (cS v1a c v1c) 2 (c.r.held.map pC),cH Z c Y]⟩ ?_
 exact ⟨⟨(⟨c.t,c.state,(aK c.s g.ack).1,c.r,cj g.window c.o,max c.most (cj g.window c.o),c.o,3,0⟩),(by unfold cP; first | (simp [*]; done) | grind)⟩,kF 5 0 [2,3,4,5]⟩
 have h9p := of_decide_eq_false h9
 refine kK ?_
 exact ⟨⟨(⟨c.t,c.state,(aK c.s g.ack).1,c.r,cj g.window c.o,max c.most (cj g.window c.o),c.o,0,0⟩),(by unfold cP; first | (simp [*]; done) | grind)⟩,kF 5 0 [2,3,4,5]⟩
 have h8p := neF h8
 refine kK ?_
 exact ⟨⟨({ c with s := (aK c.s g.ack).1,window := cj g.window c.o,most := max c.most (cj g.window c.o) }),(by unfold cP; first | (simp [*]; done) | grind)⟩,kF 5 0 [2,3,4,5]⟩
 have h7p := cI h7
 refine aU [2,3,4,5,8,59] [(59,aB false)] <| kN <| kK ?_
 exact ⟨⟨({ c with s := (aK c.s g.ack).1,window := cj g.window c.o,most := max c.most (cj g.window c.o) }),(by unfold cP; first | (simp [*]; done) | grind)⟩,kF 5 0 [2,3,4,5]⟩
 refine kK ?_
 exact ⟨⟨(c),(by unfold cP; first | (simp [*]; done) | grind)⟩,kF 5 0 [2,3,4,5]⟩
 rintro ⟨m,hm5⟩
 try dsimp only
 try dsimp only at hm5
 have hmr : m.r = c.r := by rw [hm5]; exact (heardMid_eq c g).1
 have hm1 : m.r.held.length ≤ 1048576 := by rw [hmr]; exact hkn
 have hm2 : ∀ p ∈ m.r.held,p.text.size ≤ 1048576 := by rw [hmr]; exact hm
 have hm3 : m.r.data.size ≤ 4611686018427387904 := by rw [hmr]; exact hsz
 refine kS <| kQ <| dZ 2 [2,3,4,5,66] [(66,aI c.state)] 83 [iI c.state,iI 1,iI 3] (some 67) rfl (bF fun ww hf => dP c.state 1 3 ww ) ?_
 intro _
 refine aU [2,3,4,5,67] [] <| kC (cR c.state 1 3) (fun h10 => ?_) (fun h10 => ?_)
 have h10i := inB_tt.1 (show cR c.state 1 3 = true from by simpa using h10)
 refine bw [true,true,true,false,true] (by kernel_rfl) (fun ρ σ => ?_)
 refine cK [0,1,2,3,4,5,6] [74,73,71,69,4,5] 4 [(74,.v (.agg (bE g).toArray)),(73,.v (.string g.body)),(71,aI g.seq),(69,.v (.agg (ab c.r (cS Z c Y)).toArray)),(4,.p 2 0),(5,.p 3 0)] <| kA [7] <| d8 7 67 [.agg (bE g).toArray,iI 1] (some 75) rfl (br fun ww hf => sHas_c g.src g.dst g.seq g.ack g.flags g.window g.o.mss g.o.scale g.o.sack g.o.stamp g.o.val g.o.echo g.body 1 ww ) ?_
 intro _
 refine kA [8] <| d8 8 82 [.agg (ab c.r (cS Z c Y)).toArray,iI g.seq,.string g.body,.bool (cL g.flags 1)] (some 76) rfl (cm fun ww hw hf => ysArrived_c c.r (cS Z c Y) g.seq g.body (cL g.flags 1) ww (hf _ m1) (by assumption) (by assumption) (by omega) (by omega) w.heap.size hw) ?_
 rintro ⟨v11a,v11c⟩
 have hz12 := arrived_sz (H := 1048576) (T := 1048576) (D := 4611686018427387904) (r := c.r) (seq := g.seq) (t := g.body) (fin := (cL g.flags 1)) (by assumption) (by assumption) (by assumption) (by omega) (by omega) (by omega)
 obtain ⟨hz12a,hz12b,hz12c⟩ := hz12
 refine cK [9] [77,76,4,5] 1 [(77,.p 3 10),(76,.v (.agg (ab (ah c.r g.seq g.body (cL g.flags 1)) (.slice v11a ((ah c.r g.seq g.body (cL g.flags 1)).held.length) v11c)).toArray)),(4,.p 2 0),(5,.p 3 0)] <| kA [10] <| dp 10 3 10 (ab (ah c.r g.seq g.body (cL g.flags 1)) (.slice v11a ((ah c.r g.seq g.body (cL g.flags 1)).held.length) v11c)) rfl <| kZ <| kQ <| dZ 1 [4,78] [(78,.v (.agg (a6 { m with r := (ah c.r g.seq g.body (cL g.flags 1)) } (.slice v11a ((ah c.r g.seq g.body (cL g.flags 1)).held.length) v11c)).toArray))] 96 [.agg (a6 { m with r := (ah c.r g.seq g.body (cL g.flags 1)) } (.slice v11a ((ah c.r g.seq g.body (cL g.flags 1)).held.length) v11c)).toArray] (some 79) rfl (cm fun ww hw hf => ysTurned_c ({ m with r := (ah c.r g.seq g.body (cL g.flags 1)) }) (.slice v11a ((ah c.r g.seq g.body (cL g.flags 1)).held.length) v11c) ww (au (hf _ m0)) (by assumption) (by assumption) (by omega) w.heap.size hw) ?_
 rintro ⟨v13a,v13c⟩
 have hbd14 : (bT ({ m with r := (ah c.r g.seq g.body (cL g.flags 1)) })).r.held.length ≤ 1048576 := turned_bd _  (by omega)
 refine ba [4] [(4,.p 2 0)] 2 ⟨50,a6 (bT ({ m with r := (ah c.r g.seq g.body (cL g.flags 1)) })) (.slice v13a ((bT ({ m with r := (ah c.r g.seq g.body (cL g.flags 1)) })).r.held.length) v13c)⟩ <| kR ?_
 have hmod : heard c g = (bT ({ m with r := (ah c.r g.seq g.body (cL g.flags 1)) })) := by first | (unfold heard; rw [if_pos hv5,← hm5]; unfold fq; rw [if_pos (by assumption)]; done) | (unfold heard; rw [if_pos hv5,← hm5]; unfold fq; rw [if_neg (by simp [*]; done),← hmr]; done) | (unfold heard; rw [if_neg hv5]; done)
 exact ⟨[.agg (a6 (bT ({ m with r := (ah c.r g.seq g.body (cL g.flags 1)) })) (.slice v13a ((bT ({ m with r := (ah c.r g.seq g.body (cL g.flags 1)) })).r.held.length) v13c)).toArray],by kernel_rfl,fun w' hb hf ha => by rw [hmod]; exact xo1 ((v13a,v13c)) rfl rfl (pO (hf _ m0) hB) hb⟩
 have h10i := inB_ff.1 (show cR c.state 1 3 = false from by simpa using h10)
 refine kK <| kQ <| dZ 1 [4,78] [(78,.v (.agg (a6 m (cS v1a m v1c)).toArray))] 96 [.agg (a6 m (cS v1a m v1c)).toArray] (some 79) rfl (cm fun ww hw hf => ysTurned_c m (cS v1a m v1c) ww (Own.sl (hf _ m0)) (by assumption) (by assumption) (by omega) w.heap.size hw) ?_
 rintro ⟨v15a,v15c⟩
 have hbd16 : (bT m).r.held.length ≤ 1048576 := turned_bd _  (by omega)
 refine ba [4] [(4,.p 2 0)] 2 ⟨50,a6 (bT m) (.slice v15a ((bT m).r.held.length) v15c)⟩ <| kR ?_
 have hmod : heard c g = (bT m) := by first | (unfold heard; rw [if_pos hv5,← hm5]; unfold fq; rw [if_pos (by assumption)]; done) | (unfold heard; rw [if_pos hv5,← hm5]; unfold fq; rw [if_neg (by simp [*]; done),← hmr]; done) | (unfold heard; rw [if_neg hv5]; done)
 exact ⟨[.agg (a6 (bT m) (.slice v15a ((bT m).r.held.length) v15c)).toArray],by kernel_rfl,fun w' hb hf ha => by rw [hmod]; exact xo1 ((v15a,v15c)) rfl rfl (pO (hf _ m0) hB) hb⟩
theorem ysReceive_c (c : Con) (rV : Value) (g : Seg) (w : World) (hZ : Sl w rV 2 (c.r.held.map pC)) (hkn : c.r.held.length ≤ 1048576)(hgz : g.body.size ≤ 1048576) (hm : ∀ p ∈ c.r.held, p.text.size ≤ 1048576) (hsz : c.r.data.size ≤ 4611686018427387904) (B : Nat) (hB : B ≤ w.heap.size) : Calls Try.prog 43 #[.agg (a6 c rV).toArray, .agg (bE g).toArray] w fun e w' => XRs w w' e (α := (Option Addr × Nat) × (Option Addr × Nat)) (fun y => .tuple #[.agg (a6 (ae c g).1 (.slice y.1.1 ((ae c g).1.r.held.length) y.1.2)).toArray, .slice y.2.1 ((ae c g).2.1.length) y.2.2, iI ((ae c g).2.2)]) (fun y => [aC B (.slice y.1.1 ((ae c g).1.r.held.length) y.1.2) 2 ((ae c g).1.r.held.map pC), aC B (.slice y.2.1 ((ae c g).2.1.length) y.2.2) 13 ((ae c g).2.1.map ap)]) := by
 obtain ⟨Z,Y,hY⟩ := hZ.form
 rw [List.length_map] at hY; subst hY
 have hJ := hZ.len; rw [List.length_map] at hJ
 have hqcrh := Sl.capLe hZ
 refine bJ (args := [.agg (a6 c (cS Z c Y)).toArray,.agg (bE g).toArray]) (fn := Try.f43) [cH Z c Y] Try.func43 rfl Try.ntmps43 rfl (by simp only [List.mem_cons,List.not_mem_nil,or_false,forall_eq_or_imp,forall_eq]; exact ⟨rfl,hZ⟩) ?_
 refine kQ <| cv [2,3,4] ⟨[(2,.p 0 0),(3,.p 1 0),(4,.p 2 0)],[⟨50,a6 c (cS Z c Y)⟩,⟨85,bE g⟩,⟨50,ce⟩],[],[cH Z c Y]⟩ <| kQ <| dZ 1 [2,3,4,13] [(13,.v (.agg (a6 c (cS Z c Y)).toArray))] 22 [.agg (a6 c (cS Z c Y)).toArray] (some 14) rfl (cm fun ww hw hf => cV c (cS Z c Y) ww (hf _ m0) (by assumption) w.heap.size hw) ?_
 rintro ⟨v1a,v1c⟩
 refine kEA [2,3,4,7] [(7,.p 3 0)] [⟨50,a6 c (cS v1a c v1c)⟩] <| kQ <| kHD 0 [2,3,4,7] [] rfl (aQ (e := 85) (K := 13) (bytes := 104) [] (rs := ([] : List Seg).map ap) rfl rfl) ?_
 intro g2
 refine aU [2,3,4,7,8] [(8,.v (.slice (some ⟨g2,0,none⟩) 0 0))] <| kQ <| dZ 2 [2,3,4,7,8,16,17] [(16,.v (.agg (a6 c (cS Z c Y)).toArray)),(17,.v (.agg (bE g).toArray))] 66 [.agg (a6 c (cS Z c Y)).toArray,.agg (bE g).toArray] (some 18) rfl (br fun ww hf => ysVerdict_c c (cS Z c Y) g ww (hf _ m2) (by omega) (by assumption) (by omega)) ?_
 intro _
 refine aU [2,3,4,7,8,9] [(9,aI (ax c g))] <| kS <| kQ <| aU [2,3,4,7,8,9,19] [(19,aI (ax c g))] ?_
 refine aj <| kQ <| aU [2,3,4,7,8,9,19,20] [(20,aB ((ax c g) == 1))] <| kC ((ax c g) == 1) (fun h3 => ?_) (fun h3 => ?_)
 have h3p := cN h3
 refine kQ <| ba [4,5,6] [(5,.v (.slice (some ⟨g2,0,none⟩) 0 0)),(6,aI (ax c g))] 2 ⟨50,a6 c (cS v1a c v1c)⟩ <| kR ?_
 have hmod : ae c g = (c,([] : List Seg),(ax c g)) := by first | (simp [ae,cz,bQ, *]; done) | grind [ae,cz,bQ]
 exact ⟨[.agg (a6 c (cS v1a c v1c)).toArray,.slice (some ⟨g2,0,none⟩) 0 0,iI (ax c g)],by kernel_rfl,fun w' hb hf ha => by rw [hmod]; exact xo2 ((v1a,v1c),(((some ⟨g2,0,none⟩) : Option Addr),0)) rfl rfl (pO (hf _ m1) hB) (pR (hf _ m0) hB) (Apart.sub2 ha (i := 1) (j := 0) rfl rfl (by decide) rfl (fun b h => h) (fun b h => bl h)) hb⟩
 have h3p := cI h3
 refine kQ <| aU [2,3,4,7,8,9,19,25] [(25,aB ((ax c g) == 2))] <| kC ((ax c g) == 2) (fun h4 => ?_) (fun h4 => ?_)
 have h4p := cN h4
 refine kQ <| ba [4,7,8,9] [] 3 ⟨50,a6 { c with state := 8 } (cS v1a c v1c)⟩ <| kQ <| cv [4,7,8,9] ⟨[(4,.p 2 0),(7,.p 3 0),(8,.v (.slice (some ⟨g2,0,none⟩) 0 0)),(9,aI (ax c g))],[⟨50,a6 c (cS Z c Y)⟩,⟨85,bE g⟩,⟨50,ce⟩,⟨50,a6 { c with state := 8,timer := 0 } (cS v1a c v1c)⟩],[],[a9 w.heap.size 85 13 (.slice (some ⟨g2,0,none⟩) 0 0) (([] : List Seg).map ap),aC w.heap.size (cS v1a c v1c) 2 (c.r.held.map pC),cH Z c Y]⟩ ?_
 refine kQ <| ba [4,7,8,9] [] 3 ⟨50,a6 { c with state := 8,timer := 0,tries := 0 } (cS v1a c v1c)⟩ <| kQ <| ba [4,5,6] [(5,.v (.slice (some ⟨g2,0,none⟩) 0 0)),(6,aI (ax c g))] 2 ⟨50,a6 { c with state := 8,timer := 0,tries := 0 } (cS v1a c v1c)⟩ ?_
 refine kR ?_
 have hmod : ae c g = (({ c with state := 8,timer := 0,tries := 0 }),([] : List Seg),(ax c g)) := by first | (simp [ae,cz,bQ, *]; done) | grind [ae,cz,bQ]
 exact ⟨[.agg (a6 { c with state := 8,timer := 0,tries := 0 } (cS v1a c v1c)).toArray,.slice (some ⟨g2,0,none⟩) 0 0,iI (ax c g)],by kernel_rfl,fun w' hb hf ha => by rw [hmod]; exact xo2 ((v1a,v1c),(((some ⟨g2,0,none⟩) : Option Addr),0)) rfl rfl (pO (hf _ m1) hB) (pR (hf _ m0) hB) (Apart.sub2 ha (i := 1) (j := 0) rfl rfl (by decide) rfl (fun b h => h) (fun b h => bl h)) hb⟩
 have h4p := cI h4
 refine kS <| kQ <| aU [2,3,4,7,8,9,19,33] [(33,aB ((ax c g) == 3))] <| kC ((ax c g) == 3) (fun h5 => ?_) (fun h5 => ?_)
 have h5p := cN h5
 refine kK <| kC ((ax c g) == 3) (fun h6 => ?_) (fun h6 => ?_)
 have h6p := cN h6
 refine kS <| d9 (α := {zz : Int // (fun (tm : Int) => tm = if ax c g = 4 ∧ c.state = 7 ∧ cL g.flags 1 = true then 4 else c.timer) zz}) (fun zz => (fun (tm : Int) => (⟨[(2,.p 0 0),(4,.p 2 0),(7,.p 3 0),(9,aI (ax c g))],[⟨50,a6 c (cS Z c Y)⟩,⟨85,bE g⟩,⟨50,ce⟩,⟨50,a6 { c with timer := tm } (cS v1a c v1c)⟩],[],[a9 w.heap.size 85 13 (.slice (some ⟨g2,0,none⟩) 0 0) (([] : List Seg).map ap),aC w.heap.size (cS v1a c v1c) 2 (c.r.held.map pC),cH Z c Y]⟩ : St)) zz.1) ?_ ?_
 refine kQ <| eo 3 [2,3,4,7,9,38] [(2,.p 0 0),(3,.p 1 0),(4,.p 2 0),(7,.p 3 0),(9,aI (ax c g)),(38,aB ((ax c g) == 4))] <| kP 38 ((ax c g) == 4) (fun h7 => ?_) (fun h7 => ?_)
 have h7p := cN h7
 exfalso; omega
 have h7p := cI h7
 refine aU [2,4,7,9,46] [(46,aB false)] <| kN <| kK ?_
 exact ⟨⟨(c.timer),(by first | (rw [if_neg (by rintro ⟨q1,q2,q3⟩; omega)]; done) | (rw [if_neg (by rintro ⟨q1,q2,q3⟩; simp_all; done)]; done) | (rw [if_pos ⟨by omega,by omega,by assumption⟩]; done))⟩,kF 4 0 [2,4,7,9]⟩
 rintro ⟨tm,htm⟩
 try dsimp only
 try dsimp only at htm
 refine kS <| ef (α := Nat) (fun y => (fun (g9 : Nat) => (⟨[(4,.p 2 0),(5,.v (.slice (some ⟨g9,0,none⟩) 1 1)),(6,aI (ax c g))],[⟨50,a6 c (cS Z c Y)⟩,⟨85,bE g⟩,⟨50,a6 { c with timer := tm } (cS v1a c v1c)⟩,⟨50,a6 { c with timer := tm } (cS v1a c v1c)⟩],[],[a9 w.heap.size 85 13 (.slice (some ⟨g9,0,none⟩) 1 1) (([⟨c.t.my,c.t.port,ag c.s,c.r.next,16,wO c.r,⟨0,(-1),false,false,0,0⟩,(⟨#[]⟩ : ByteArray)⟩] : List Seg).map ap),a9 w.heap.size 85 13 (.slice (some ⟨g2,0,none⟩) 0 0) (([] : List Seg).map ap),aC w.heap.size (cS v1a c v1c) 2 (c.r.held.map pC),cH Z c Y]⟩ : St)) y) ?_ ?_
 refine bw [true,true,false,true] (by kernel_rfl) (fun ρ σ => ?_)
 refine cK [0,1,4] [52,49,48,4] 5 [(52,aI (ax c g)),(49,.v (.agg (a6 c (cS Z c Y)).toArray)),(48,.v (.agg (a6 { c with timer := tm } (cS v1a c v1c)).toArray)),(4,.p 2 0)] <| kA [2] <| d8 2 62 [.agg (a6 c (cS Z c Y)).toArray] (some 50) rfl (br fun ww hf => eL c (cS Z c Y) ww (hf _ m2) (by first | omega | (dsimp only; omega))) ?_
 intro _
 refine kA [3,5] ⟨?_,?_⟩
 refine dG 3 rfl (a5 (a5 (aq rfl (a5 a7)))) (aQ (e := 85) (K := 13) (bytes := 104) [.agg #[iI c.t.my,iI c.t.port,iI (ag c.s),iI c.r.next,iI 16,iI (wO c.r),iI 0,iI (-1),.bool false,.bool false,iI 0,iI 0,.string (⟨#[]⟩ : ByteArray)]] (rs := ([⟨c.t.my,c.t.port,ag c.s,c.r.next,16,wO c.r,⟨0,(-1),false,false,0,0⟩,(⟨#[]⟩ : ByteArray)⟩] : List Seg).map ap) rfl rfl) ?_
 intro g9
 refine kA [5] <| dp 5 2 0 (a6 { c with timer := tm } (cS v1a c v1c)) rfl <| d3 [6,7] [6,5,4] 0 [(6,aI (ax c g)),(5,.v (.slice (some ⟨g9,0,none⟩) 1 1))] <| kZ ?_
 exact ⟨(g9),kF 4 0 [4,5,6]⟩
 refine dp 5 2 0 (a6 { c with timer := tm } (cS v1a c v1c)) rfl <| kA [3] <| dG 3 rfl (a5 (a5 (aq rfl (a5 a7)))) (aQ (e := 85) (K := 13) (bytes := 104) [.agg #[iI c.t.my,iI c.t.port,iI (ag c.s),iI c.r.next,iI 16,iI (wO c.r),iI 0,iI (-1),.bool false,.bool false,iI 0,iI 0,.string (⟨#[]⟩ : ByteArray)]] (rs := ([⟨c.t.my,c.t.port,ag c.s,c.r.next,16,wO c.r,⟨0,(-1),false,false,0,0⟩,(⟨#[]⟩ : ByteArray)⟩] : List Seg).map ap) rfl rfl) ?_
 intro g11
 refine d3 [6,7] [6,5,4] 0 [(6,aI (ax c g)),(5,.v (.slice (some ⟨g11,0,none⟩) 1 1))] <| kZ ?_
 exact ⟨(g11),kF 4 0 [4,5,6]⟩
 intro g9
 refine kR ?_
 have hmod : ae c g = (({ c with timer := tm }),([⟨c.t.my,c.t.port,ag c.s,c.r.next,16,wO c.r,⟨0,(-1),false,false,0,0⟩,(⟨#[]⟩ : ByteArray)⟩] : List Seg),(ax c g)) := by first | (have hv4 : ax c g = 4 := (by assumption); exact (received_ack hv4 htm).trans (by rw [hv4]; first | done | rfl)) | (have hv3 : ax c g = 3 := (by assumption); exact (received_chal hv3 htm).trans (by rw [hv3]; first | done | rfl))
 exact ⟨[.agg (a6 { c with timer := tm } (cS v1a c v1c)).toArray,.slice (some ⟨g9,0,none⟩) 1 1,iI (ax c g)],by kernel_rfl,fun w' hb hf ha => by rw [hmod]; exact xo2 ((v1a,v1c),(((some ⟨g9,0,none⟩) : Option Addr),1)) rfl rfl (pO (hf _ m2) hB) (pR (hf _ m0) hB) (Apart.sub2 ha (i := 2) (j := 0) rfl rfl (by decide) rfl (fun b h => h) (fun b h => bl h)) hb⟩
 have h6p := cI h6
 refine kK <| kQ <| em 2 [3,4,7,8,9,53,54] [(3,.p 1 0),(4,.p 2 0),(7,.p 3 0),(8,.v (.slice (some ⟨g2,0,none⟩) 0 0)),(9,aI (ax c g)),(53,.v (.agg (a6 c (cS Z c Y)).toArray)),(54,.v (.agg (bE g).toArray))] 68 [.agg (a6 c (cS Z c Y)).toArray,.agg (bE g).toArray] (some 55) rfl (cm fun ww hw hf => ysHeard_c c (cS Z c Y) g ww (hf _ m2) (by assumption) (by omega) (by assumption) (by omega) w.heap.size hw) ?_
 rintro ⟨v12a,v12c⟩
 have hv5 : ax c g = 5 := by have := verdict_rng c g; omega
 have hhw := heard_w hv5
 have hz13 := heard_sz (H := 1048576) (T := 1048576) (D := 4611686018427387904) (c := c) (g := g) (by assumption) (by assumption) (by assumption) (by omega) (by omega) (by omega)
 obtain ⟨hz13a,hz13b,hz13c⟩ := hz13
 refine ba [3,4,7,8,9] [] 3 ⟨50,a6 (heard c g) (.slice v12a ((heard c g).r.held.length) v12c)⟩ <| kS <| kQ <| aU [3,4,7,8,9,58] [(58,aB (((heard c g).state) == 8))] ?_
 refine kC (((heard c g).state) == 8) (fun h14 => ?_) (fun h14 => ?_)
 have h14p := cN h14
 refine kQ <| ba [4,5,6] [(5,.v (.slice (some ⟨g2,0,none⟩) 0 0)),(6,aI (ax c g))] 2 ⟨50,a6 (heard c g) (.slice v12a ((heard c g).r.held.length) v12c)⟩ <| kR ?_
 have hmod : ae c g = ((heard c g),([] : List Seg),(ax c g)) := by first | (simp [ae,cz,bQ, *]; done) | grind [ae,cz,bQ]
 exact ⟨[.agg (a6 (heard c g) (.slice v12a ((heard c g).r.held.length) v12c)).toArray,.slice (some ⟨g2,0,none⟩) 0 0,iI (ax c g)],by kernel_rfl,fun w' hb hf ha => by rw [hmod]; exact xo2 ((v12a,v12c),(((some ⟨g2,0,none⟩) : Option Addr),0)) rfl rfl (pO (hf _ m0) hB) (pR (hf _ m1) hB) (Apart.sub2 ha (i := 0) (j := 1) rfl rfl (by decide) rfl (fun b h => h) (fun b h => bl h)) hb⟩
 have h14p := cI h14
 refine kK <| kQ <| dZ 1 [3,4,7,9,62] [(62,.v (.agg (a6 (heard c g) (.slice v12a ((heard c g).r.held.length) v12c)).toArray))] 62 [.agg (a6 (heard c g) (.slice v12a ((heard c g).r.held.length) v12c)).toArray] (some 63) rfl (br fun ww hf => eL (heard c g) (.slice v12a ((heard c g).r.held.length) v12c) ww (Own.sl (hf _ m0)) (by first | omega | (dsimp only; omega))) ?_
 intro _
 refine kEA [3,4,7,9,10] [(10,.p 4 0)] [⟨85,[iI ((heard c g).t.my),iI ((heard c g).t.port),iI (ag ((heard c g).s)),iI ((heard c g).r.next),iI 16,iI (wO ((heard c g).r)),iI 0,iI (-1),.bool false,.bool false,iI 0,iI 0,.string (⟨#[]⟩ : ByteArray)]⟩] <| kQ <| dZ 3 [3,4,9,10,65,67] [(65,.v (.agg (a6 (heard c g) (.slice v12a ((heard c g).r.held.length) v12c)).toArray)),(67,aI ((heard c g).window))] 60 [.agg (a6 (heard c g) (.slice v12a ((heard c g).r.held.length) v12c)).toArray,iI ((heard c g).window)] (some 68) rfl (cm fun ww hw hf => fP (heard c g) (.slice v12a ((heard c g).r.held.length) v12c) ((heard c g).window) ww (Own.sl (hf _ m0)) (by assumption) (by assumption) (by omega) (by omega) w.heap.size hw) ?_
 rintro ⟨⟨v15a,v15c⟩,⟨v16a,v16c⟩⟩
 have hbd17 : (pump (heard c g) ((heard c g).window)).1.r.held.length ≤ 1048576 ∧ (pump (heard c g) ((heard c g).window)).2.length ≤ 49 := fz _ _  (by omega)
 have hbd17a := hbd17.1; have hbd17b := hbd17.2
 refine kEA [3,4,9,10,11,12] [(11,.p 5 0),(12,.v (.slice v16a ((pump (heard c g) ((heard c g).window)).2.length) v16c))] [⟨50,a6 (pump (heard c g) ((heard c g).window)).1 (.slice v15a ((pump (heard c g) ((heard c g).window)).1.r.held.length) v15c)⟩] <| kS <| kQ <| dZ 1 [4,9,10,11,12,71] [(71,.v (.agg (bE g).toArray))] 69 [.agg (bE g).toArray] (some 72) rfl (br fun ww hf => gx g.src g.dst g.seq g.ack g.flags g.window g.o.mss g.o.scale g.o.sack g.o.stamp g.o.val g.o.echo g.body ww (by omega)) ?_
 intro _
 refine dK 2 [4,9,10,11,12,74] [(74,aB (decide ((cD g) > 0)))] <| kP 74 (decide ((cD g) > 0)) (fun h18 => ?_) (fun h18 => ?_)
 have h18p := of_decide_eq_true h18
 refine aU [4,9,10,11,12,78] [(78,aB ((((pump (heard c g) ((heard c g).window)).2.length : Nat) : Int) == 0))] <| kC ((((pump (heard c g) ((heard c g).window)).2.length : Nat) : Int) == 0) (fun h19 => ?_) (fun h19 => ?_)
 have h19p := cN h19
 refine kG <| kHD 2 [4,9,11,12,79,80] [(79,.v (.slice v16a ((pump (heard c g) ((heard c g).window)).2.length) v16c)),(80,.v (.agg #[iI ((heard c g).t.my),iI ((heard c g).t.port),iI (ag ((heard c g).s)),iI ((heard c g).r.next),iI 16,iI (wO ((heard c g).r)),iI 0,iI (-1),.bool false,.bool false,iI 0,iI 0,.string (⟨#[]⟩ : ByteArray)]))] rfl (aQ (e := 85) (K := 13) (bytes := 104) [.agg #[iI ((heard c g).t.my),iI ((heard c g).t.port),iI (ag ((heard c g).s)),iI ((heard c g).r.next),iI 16,iI (wO ((heard c g).r)),iI 0,iI (-1),.bool false,.bool false,iI 0,iI 0,.string (⟨#[]⟩ : ByteArray)]] (rs := ([⟨(heard c g).t.my,(heard c g).t.port,ag ((heard c g).s),(heard c g).r.next,16,wO ((heard c g).r),⟨0,(-1),false,false,0,0⟩,(⟨#[]⟩ : ByteArray)⟩] : List Seg).map ap) rfl rfl) ?_
 intro g20
 refine kHS 0 [4,9,11,12,79,81] [(4,.p 2 0),(9,aI (ax c g)),(11,.p 5 0),(12,.v (.slice v16a ((pump (heard c g) ((heard c g).window)).2.length) v16c)),(79,.v (.slice v16a ((pump (heard c g) ((heard c g).window)).2.length) v16c)),(81,.v (.slice (some ⟨g20,0,none⟩) 1 1))] rfl (aG (e := 85) (K := 13) (bytes := 104) (i := 2) (q := ((pump (heard c g) ((heard c g).window)).2 ++ ([⟨(heard c g).t.my,(heard c g).t.port,ag ((heard c g).s),(heard c g).r.next,16,wO ((heard c g).r),⟨0,(-1),false,false,0,0⟩,(⟨#[]⟩ : ByteArray)⟩] : List Seg)).length) (new := ([⟨(heard c g).t.my,(heard c g).t.port,ag ((heard c g).s),(heard c g).r.next,16,wO ((heard c g).r),⟨0,(-1),false,false,0,0⟩,(⟨#[]⟩ : ByteArray)⟩] : List Seg).map ap) (rs' := ((pump (heard c g) ((heard c g).window)).2 ++ ([⟨(heard c g).t.my,(heard c g).t.port,ag ((heard c g).s),(heard c g).r.next,16,wO ((heard c g).r),⟨0,(-1),false,false,0,0⟩,(⟨#[]⟩ : ByteArray)⟩] : List Seg)).map ap) rfl rfl rfl rfl (by kernel_rfl) (by kernel_rfl) (by kernel_rfl) rfl (by simp) (by rw [List.map_append]) (by simp) (fun ww hf => (au (hf (a9 w.heap.size 85 13 (.slice (some ⟨g20,0,none⟩) 1 1) (([⟨(heard c g).t.my,(heard c g).t.port,ag ((heard c g).s),(heard c g).r.next,16,wO ((heard c g).r),⟨0,(-1),false,false,0,0⟩,(⟨#[]⟩ : ByteArray)⟩] : List Seg).map ap)) (by simp)))) (by intro r hr; obtain ⟨x,hx,rfl⟩ := List.mem_map.1 hr; exact ⟨rfl,by simp [ap,Value.oneCell']⟩) (by (try simp only [List.length_map,List.length_append,List.length_cons,List.length_nil,List.length_take,List.length_drop,maxLen]); omega) (by (try simp only [List.length_map,List.length_append,List.length_cons,List.length_nil,List.length_take,List.length_drop,maxLen]); omega)) ?_
 rintro ⟨v21a,v21c⟩
 refine aU [4,9,11,12] [(12,.v (.slice v21a (((pump (heard c g) ((heard c g).window)).2 ++ ([⟨(heard c g).t.my,(heard c g).t.port,ag ((heard c g).s),(heard c g).r.next,16,wO ((heard c g).r),⟨0,(-1),false,false,0,0⟩,(⟨#[]⟩ : ByteArray)⟩] : List Seg)).length) v21c))] <| kQ <| ba [4,5,6] [(5,.v (.slice v21a (((pump (heard c g) ((heard c g).window)).2 ++ ([⟨(heard c g).t.my,(heard c g).t.port,ag ((heard c g).s),(heard c g).r.next,16,wO ((heard c g).r),⟨0,(-1),false,false,0,0⟩,(⟨#[]⟩ : ByteArray)⟩] : List Seg)).length) v21c)),(6,aI (ax c g))] 2 ⟨50,a6 (pump (heard c g) ((heard c g).window)).1 (.slice v15a ((pump (heard c g) ((heard c g).window)).1.r.held.length) v15c)⟩ <| kR ?_
 have hmod : ae c g = (((pump (heard c g) ((heard c g).window)).1),((pump (heard c g) ((heard c g).window)).2 ++ ([⟨(heard c g).t.my,(heard c g).t.port,ag ((heard c g).s),(heard c g).r.next,16,wO ((heard c g).r),⟨0,(-1),false,false,0,0⟩,(⟨#[]⟩ : ByteArray)⟩] : List Seg)),(ax c g)) := by first | (simp [ae,cz,bQ, *]; done) | grind [ae,cz,bQ]
 exact ⟨[.agg (a6 (pump (heard c g) ((heard c g).window)).1 (.slice v15a ((pump (heard c g) ((heard c g).window)).1.r.held.length) v15c)).toArray,.slice v21a (((pump (heard c g) ((heard c g).window)).2 ++ ([⟨(heard c g).t.my,(heard c g).t.port,ag ((heard c g).s),(heard c g).r.next,16,wO ((heard c g).r),⟨0,(-1),false,false,0,0⟩,(⟨#[]⟩ : ByteArray)⟩] : List Seg)).length) v21c,iI (ax c g)],by kernel_rfl,fun w' hb hf ha => by rw [hmod]; exact xo2 ((v15a,v15c),(v21a,v21c)) rfl rfl (pO (hf _ m2) hB) (pR (hf _ m0) hB) (Apart.sub2 ha (i := 2) (j := 0) rfl rfl (by decide) rfl (fun b h => h) (fun b h => bl h)) hb⟩
 have h19p := cI h19
 refine kK <| kQ <| ba [4,5,6] [(5,.v (.slice v16a ((pump (heard c g) ((heard c g).window)).2.length) v16c)),(6,aI (ax c g))] 2 ⟨50,a6 (pump (heard c g) ((heard c g).window)).1 (.slice v15a ((pump (heard c g) ((heard c g).window)).1.r.held.length) v15c)⟩ <| kR ?_
 have hmod : ae c g = (((pump (heard c g) ((heard c g).window)).1),((pump (heard c g) ((heard c g).window)).2),(ax c g)) := by first | (simp [ae,cz,bQ, *]; done) | grind [ae,cz,bQ]
 exact ⟨[.agg (a6 (pump (heard c g) ((heard c g).window)).1 (.slice v15a ((pump (heard c g) ((heard c g).window)).1.r.held.length) v15c)).toArray,.slice v16a ((pump (heard c g) ((heard c g).window)).2.length) v16c,iI (ax c g)],by kernel_rfl,fun w' hb hf ha => by rw [hmod]; exact xo2 ((v15a,v15c),(v16a,v16c)) rfl rfl (pO (hf _ m0) hB) (pR (hf _ m1) hB) (Apart.sub2 ha (i := 0) (j := 1) rfl rfl (by decide) rfl (fun b h => h) (fun b h => bl h)) hb⟩
 have h18p := of_decide_eq_false h18
 refine aU [4,9,10,11,12,78] [(78,aB false)] <| kN <| kK <| kQ <| ba [4,5,6] [(5,.v (.slice v16a ((pump (heard c g) ((heard c g).window)).2.length) v16c)),(6,aI (ax c g))] 2 ⟨50,a6 (pump (heard c g) ((heard c g).window)).1 (.slice v15a ((pump (heard c g) ((heard c g).window)).1.r.held.length) v15c)⟩ ?_
 refine kR ?_
 have hmod : ae c g = (((pump (heard c g) ((heard c g).window)).1),((pump (heard c g) ((heard c g).window)).2),(ax c g)) := by first | (simp [ae,cz,bQ, *]; done) | grind [ae,cz,bQ]
 exact ⟨[.agg (a6 (pump (heard c g) ((heard c g).window)).1 (.slice v15a ((pump (heard c g) ((heard c g).window)).1.r.held.length) v15c)).toArray,.slice v16a ((pump (heard c g) ((heard c g).window)).2.length) v16c,iI (ax c g)],by kernel_rfl,fun w' hb hf ha => by rw [hmod]; exact xo2 ((v15a,v15c),(v16a,v16c)) rfl rfl (pO (hf _ m0) hB) (pR (hf _ m1) hB) (Apart.sub2 ha (i := 0) (j := 1) rfl rfl (by decide) rfl (fun b h => h) (fun b h => bl h)) hb⟩
 have h5p := cI h5
 refine kG <| aD [2,3,4,7,8,9,33] [(2,.p 0 0),(3,.p 1 0),(4,.p 2 0),(7,.p 3 0),(8,.v (.slice (some ⟨g2,0,none⟩) 0 0)),(9,aI (ax c g)),(33,aB ((ax c g) == 4))] <| kC ((ax c g) == 4) (fun h22 => ?_) (fun h22 => ?_)
 have h22p := cN h22
 refine kS <| d9 (α := {zz : Int // (fun (tm : Int) => tm = if ax c g = 4 ∧ c.state = 7 ∧ cL g.flags 1 = true then 4 else c.timer) zz}) (fun zz => (fun (tm : Int) => (⟨[(2,.p 0 0),(4,.p 2 0),(7,.p 3 0),(9,aI (ax c g))],[⟨50,a6 c (cS Z c Y)⟩,⟨85,bE g⟩,⟨50,ce⟩,⟨50,a6 { c with timer := tm } (cS v1a c v1c)⟩],[],[a9 w.heap.size 85 13 (.slice (some ⟨g2,0,none⟩) 0 0) (([] : List Seg).map ap),aC w.heap.size (cS v1a c v1c) 2 (c.r.held.map pC),cH Z c Y]⟩ : St)) zz.1) ?_ ?_
 refine kQ <| dK 3 [2,3,4,7,9,38] [(38,aB ((ax c g) == 4))] <| kP 38 ((ax c g) == 4) (fun h23 => ?_) (fun h23 => ?_)
 have h23p := cN h23
 refine dK 5 [2,3,4,7,9,43] [(43,aB (c.state == 7))] <| kP 43 (c.state == 7) (fun h24 => ?_) (fun h24 => ?_)
 have h24p := cN h24
 refine dZ 1 [2,4,7,9,43,44] [(43,aB true),(44,.v (.agg (bE g).toArray))] 67 [.agg (bE g).toArray,iI 1] (some 45) rfl (br fun ww hf => sHas_c g.src g.dst g.seq g.ack g.flags g.window g.o.mss g.o.scale g.o.sack g.o.stamp g.o.val g.o.echo g.body 1 ww ) ?_
 intro _
 refine aU [2,4,7,9,46] [(46,aB (cL g.flags 1))] <| kC (cL g.flags 1) (fun h25 => ?_) (fun h25 => ?_)
 refine kG <| ba [2,4,7,9] [] 3 ⟨50,a6 { c with timer := 4 } (cS v1a c v1c)⟩ ?_
 exact ⟨⟨(4),(by first | (rw [if_neg (by rintro ⟨q1,q2,q3⟩; omega)]; done) | (rw [if_neg (by rintro ⟨q1,q2,q3⟩; simp_all; done)]; done) | (rw [if_pos ⟨by omega,by omega,by assumption⟩]; done))⟩,kF 4 0 [2,4,7,9]⟩
 refine kK ?_
 exact ⟨⟨(c.timer),(by first | (rw [if_neg (by rintro ⟨q1,q2,q3⟩; omega)]; done) | (rw [if_neg (by rintro ⟨q1,q2,q3⟩; simp_all; done)]; done) | (rw [if_pos ⟨by omega,by omega,by assumption⟩]; done))⟩,kF 4 0 [2,4,7,9]⟩
 have h24p := cI h24
 refine aU [2,4,7,9,46] [(46,aB false)] <| kN <| kK ?_
 exact ⟨⟨(c.timer),(by first | (rw [if_neg (by rintro ⟨q1,q2,q3⟩; omega)]; done) | (rw [if_neg (by rintro ⟨q1,q2,q3⟩; simp_all; done)]; done) | (rw [if_pos ⟨by omega,by omega,by assumption⟩]; done))⟩,kF 4 0 [2,4,7,9]⟩
 have h23p := cI h23
 refine aU [2,4,7,9,46] [(46,aB false)] <| kN <| kK ?_
 exact ⟨⟨(c.timer),(by first | (rw [if_neg (by rintro ⟨q1,q2,q3⟩; omega)]; done) | (rw [if_neg (by rintro ⟨q1,q2,q3⟩; simp_all; done)]; done) | (rw [if_pos ⟨by omega,by omega,by assumption⟩]; done))⟩,kF 4 0 [2,4,7,9]⟩
 rintro ⟨tm,htm⟩
 try dsimp only
 try dsimp only at htm
 refine kS <| ef (α := Nat) (fun y => (fun (g27 : Nat) => (⟨[(4,.p 2 0),(5,.v (.slice (some ⟨g27,0,none⟩) 1 1)),(6,aI (ax c g))],[⟨50,a6 c (cS Z c Y)⟩,⟨85,bE g⟩,⟨50,a6 { c with timer := tm } (cS v1a c v1c)⟩,⟨50,a6 { c with timer := tm } (cS v1a c v1c)⟩],[],[a9 w.heap.size 85 13 (.slice (some ⟨g27,0,none⟩) 1 1) (([⟨c.t.my,c.t.port,ag c.s,c.r.next,16,wO c.r,⟨0,(-1),false,false,0,0⟩,(⟨#[]⟩ : ByteArray)⟩] : List Seg).map ap),a9 w.heap.size 85 13 (.slice (some ⟨g2,0,none⟩) 0 0) (([] : List Seg).map ap),aC w.heap.size (cS v1a c v1c) 2 (c.r.held.map pC),cH Z c Y]⟩ : St)) y) ?_ ?_
 refine bw [true,true,false,true] (by kernel_rfl) (fun ρ σ => ?_)
 refine d3 [0,1,4] [52,49,48,4] 5 [(52,aI (ax c g)),(49,.v (.agg (a6 c (cS Z c Y)).toArray)),(48,.v (.agg (a6 { c with timer := tm } (cS v1a c v1c)).toArray))] <| kA [2] <| d8 2 62 [.agg (a6 c (cS Z c Y)).toArray] (some 50) rfl (br fun ww hf => eL c (cS Z c Y) ww (hf _ m2) (by first | omega | (dsimp only; omega))) ?_
 intro _
 refine kA [3,5] ⟨?_,?_⟩
 refine dG 3 rfl (a5 (a5 (aq rfl (a5 a7)))) (aQ (e := 85) (K := 13) (bytes := 104) [.agg #[iI c.t.my,iI c.t.port,iI (ag c.s),iI c.r.next,iI 16,iI (wO c.r),iI 0,iI (-1),.bool false,.bool false,iI 0,iI 0,.string (⟨#[]⟩ : ByteArray)]] (rs := ([⟨c.t.my,c.t.port,ag c.s,c.r.next,16,wO c.r,⟨0,(-1),false,false,0,0⟩,(⟨#[]⟩ : ByteArray)⟩] : List Seg).map ap) rfl rfl) ?_
 intro g27
 refine kA [5] <| dp 5 2 0 (a6 { c with timer := tm } (cS v1a c v1c)) rfl <| d3 [6,7] [6,5,4] 0 [(6,aI (ax c g)),(5,.v (.slice (some ⟨g27,0,none⟩) 1 1))] <| kZ ?_
 exact ⟨(g27),kF 4 0 [4,5,6]⟩
 refine dp 5 2 0 (a6 { c with timer := tm } (cS v1a c v1c)) rfl <| kA [3] <| dG 3 rfl (a5 (a5 (aq rfl (a5 a7)))) (aQ (e := 85) (K := 13) (bytes := 104) [.agg #[iI c.t.my,iI c.t.port,iI (ag c.s),iI c.r.next,iI 16,iI (wO c.r),iI 0,iI (-1),.bool false,.bool false,iI 0,iI 0,.string (⟨#[]⟩ : ByteArray)]] (rs := ([⟨c.t.my,c.t.port,ag c.s,c.r.next,16,wO c.r,⟨0,(-1),false,false,0,0⟩,(⟨#[]⟩ : ByteArray)⟩] : List Seg).map ap) rfl rfl) ?_
 intro g29
 refine d3 [6,7] [6,5,4] 0 [(6,aI (ax c g)),(5,.v (.slice (some ⟨g29,0,none⟩) 1 1))] <| kZ ?_
 exact ⟨(g29),kF 4 0 [4,5,6]⟩
 intro g27
 refine kR ?_
 have hmod : ae c g = (({ c with timer := tm }),([⟨c.t.my,c.t.port,ag c.s,c.r.next,16,wO c.r,⟨0,(-1),false,false,0,0⟩,(⟨#[]⟩ : ByteArray)⟩] : List Seg),(ax c g)) := by first | (have hv4 : ax c g = 4 := (by assumption); exact (received_ack hv4 htm).trans (by rw [hv4]; first | done | rfl)) | (have hv3 : ax c g = 3 := (by assumption); exact (received_chal hv3 htm).trans (by rw [hv3]; first | done | rfl))
 exact ⟨[.agg (a6 { c with timer := tm } (cS v1a c v1c)).toArray,.slice (some ⟨g27,0,none⟩) 1 1,iI (ax c g)],by kernel_rfl,fun w' hb hf ha => by rw [hmod]; exact xo2 ((v1a,v1c),(((some ⟨g27,0,none⟩) : Option Addr),1)) rfl rfl (pO (hf _ m2) hB) (pR (hf _ m0) hB) (Apart.sub2 ha (i := 2) (j := 0) rfl rfl (by decide) rfl (fun b h => h) (fun b h => bl h)) hb⟩
 have h22p := cI h22
 refine kK <| kQ <| dZ 2 [3,4,7,8,9,53,54] [(53,.v (.agg (a6 c (cS Z c Y)).toArray)),(54,.v (.agg (bE g).toArray))] 68 [.agg (a6 c (cS Z c Y)).toArray,.agg (bE g).toArray] (some 55) rfl (cm fun ww hw hf => ysHeard_c c (cS Z c Y) g ww (hf _ m2) (by assumption) (by omega) (by assumption) (by omega) w.heap.size hw) ?_
 rintro ⟨v30a,v30c⟩
 have hv5 : ax c g = 5 := by have := verdict_rng c g; omega
 have hhw := heard_w hv5
 have hz31 := heard_sz (H := 1048576) (T := 1048576) (D := 4611686018427387904) (c := c) (g := g) (by assumption) (by assumption) (by assumption) (by omega) (by omega) (by omega)
 obtain ⟨hz31a,hz31b,hz31c⟩ := hz31
 refine ba [3,4,7,8,9] [] 3 ⟨50,a6 (heard c g) (.slice v30a ((heard c g).r.held.length) v30c)⟩ <| kS <| kQ <| aU [3,4,7,8,9,58] [(58,aB (((heard c g).state) == 8))] ?_
 refine kC (((heard c g).state) == 8) (fun h32 => ?_) (fun h32 => ?_)
 have h32p := cN h32
 refine kQ <| ba [4,5,6] [(5,.v (.slice (some ⟨g2,0,none⟩) 0 0)),(6,aI (ax c g))] 2 ⟨50,a6 (heard c g) (.slice v30a ((heard c g).r.held.length) v30c)⟩ <| kR ?_
 have hmod : ae c g = ((heard c g),([] : List Seg),(ax c g)) := by first | (simp [ae,cz,bQ, *]; done) | grind [ae,cz,bQ]
 exact ⟨[.agg (a6 (heard c g) (.slice v30a ((heard c g).r.held.length) v30c)).toArray,.slice (some ⟨g2,0,none⟩) 0 0,iI (ax c g)],by kernel_rfl,fun w' hb hf ha => by rw [hmod]; exact xo2 ((v30a,v30c),(((some ⟨g2,0,none⟩) : Option Addr),0)) rfl rfl (pO (hf _ m0) hB) (pR (hf _ m1) hB) (Apart.sub2 ha (i := 0) (j := 1) rfl rfl (by decide) rfl (fun b h => h) (fun b h => bl h)) hb⟩
 have h32p := cI h32
 refine kK <| kQ <| dZ 1 [3,4,7,9,62] [(62,.v (.agg (a6 (heard c g) (.slice v30a ((heard c g).r.held.length) v30c)).toArray))] 62 [.agg (a6 (heard c g) (.slice v30a ((heard c g).r.held.length) v30c)).toArray] (some 63) rfl (br fun ww hf => eL (heard c g) (.slice v30a ((heard c g).r.held.length) v30c) ww (Own.sl (hf _ m0)) (by first | omega | (dsimp only; omega))) ?_
 intro _
 refine kEA [3,4,7,9,10] [(10,.p 4 0)] [⟨85,[iI ((heard c g).t.my),iI ((heard c g).t.port),iI (ag ((heard c g).s)),iI ((heard c g).r.next),iI 16,iI (wO ((heard c g).r)),iI 0,iI (-1),.bool false,.bool false,iI 0,iI 0,.string (⟨#[]⟩ : ByteArray)]⟩] <| kQ <| dZ 3 [3,4,9,10,65,67] [(65,.v (.agg (a6 (heard c g) (.slice v30a ((heard c g).r.held.length) v30c)).toArray)),(67,aI ((heard c g).window))] 60 [.agg (a6 (heard c g) (.slice v30a ((heard c g).r.held.length) v30c)).toArray,iI ((heard c g).window)] (some 68) rfl (cm fun ww hw hf => fP (heard c g) (.slice v30a ((heard c g).r.held.length) v30c) ((heard c g).window) ww (Own.sl (hf _ m0)) (by assumption) (by assumption) (by omega) (by omega) w.heap.size hw) ?_
 rintro ⟨⟨v33a,v33c⟩,⟨v34a,v34c⟩⟩
 have hbd35 : (pump (heard c g) ((heard c g).window)).1.r.held.length ≤ 1048576 ∧ (pump (heard c g) ((heard c g).window)).2.length ≤ 49 := fz _ _  (by omega)
 have hbd35a := hbd35.1; have hbd35b := hbd35.2
 refine kEA [3,4,9,10,11,12] [(11,.p 5 0),(12,.v (.slice v34a ((pump (heard c g) ((heard c g).window)).2.length) v34c))] [⟨50,a6 (pump (heard c g) ((heard c g).window)).1 (.slice v33a ((pump (heard c g) ((heard c g).window)).1.r.held.length) v33c)⟩] <| kS <| kQ <| dZ 1 [4,9,10,11,12,71] [(71,.v (.agg (bE g).toArray))] 69 [.agg (bE g).toArray] (some 72) rfl (br fun ww hf => gx g.src g.dst g.seq g.ack g.flags g.window g.o.mss g.o.scale g.o.sack g.o.stamp g.o.val g.o.echo g.body ww (by omega)) ?_
 intro _
 refine dK 2 [4,9,10,11,12,74] [(74,aB (decide ((cD g) > 0)))] <| kP 74 (decide ((cD g) > 0)) (fun h36 => ?_) (fun h36 => ?_)
 have h36p := of_decide_eq_true h36
 refine aU [4,9,10,11,12,78] [(78,aB ((((pump (heard c g) ((heard c g).window)).2.length : Nat) : Int) == 0))] <| kC ((((pump (heard c g) ((heard c g).window)).2.length : Nat) : Int) == 0) (fun h37 => ?_) (fun h37 => ?_)
 have h37p := cN h37
 refine kG <| kHS 2 [4,9,11,12,79,80] [(4,.p 2 0),(9,aI (ax c g)),(11,.p 5 0),(12,.v (.slice v34a ((pump (heard c g) ((heard c g).window)).2.length) v34c)),(79,.v (.slice v34a ((pump (heard c g) ((heard c g).window)).2.length) v34c)),(80,.v (.agg #[iI ((heard c g).t.my),iI ((heard c g).t.port),iI (ag ((heard c g).s)),iI ((heard c g).r.next),iI 16,iI (wO ((heard c g).r)),iI 0,iI (-1),.bool false,.bool false,iI 0,iI 0,.string (⟨#[]⟩ : ByteArray)]))] rfl (aQ (e := 85) (K := 13) (bytes := 104) [.agg #[iI ((heard c g).t.my),iI ((heard c g).t.port),iI (ag ((heard c g).s)),iI ((heard c g).r.next),iI 16,iI (wO ((heard c g).r)),iI 0,iI (-1),.bool false,.bool false,iI 0,iI 0,.string (⟨#[]⟩ : ByteArray)]] (rs := ([⟨(heard c g).t.my,(heard c g).t.port,ag ((heard c g).s),(heard c g).r.next,16,wO ((heard c g).r),⟨0,(-1),false,false,0,0⟩,(⟨#[]⟩ : ByteArray)⟩] : List Seg).map ap) rfl rfl) ?_
 intro g38
 refine kHD 0 [4,9,11,12,79,81] [] rfl (aG (e := 85) (K := 13) (bytes := 104) (i := 2) (q := ((pump (heard c g) ((heard c g).window)).2 ++ ([⟨(heard c g).t.my,(heard c g).t.port,ag ((heard c g).s),(heard c g).r.next,16,wO ((heard c g).r),⟨0,(-1),false,false,0,0⟩,(⟨#[]⟩ : ByteArray)⟩] : List Seg)).length) (new := ([⟨(heard c g).t.my,(heard c g).t.port,ag ((heard c g).s),(heard c g).r.next,16,wO ((heard c g).r),⟨0,(-1),false,false,0,0⟩,(⟨#[]⟩ : ByteArray)⟩] : List Seg).map ap) (rs' := ((pump (heard c g) ((heard c g).window)).2 ++ ([⟨(heard c g).t.my,(heard c g).t.port,ag ((heard c g).s),(heard c g).r.next,16,wO ((heard c g).r),⟨0,(-1),false,false,0,0⟩,(⟨#[]⟩ : ByteArray)⟩] : List Seg)).map ap) rfl rfl rfl rfl (by kernel_rfl) (by kernel_rfl) (by kernel_rfl) rfl (by simp) (by rw [List.map_append]) (by simp) (fun ww hf => (au (hf (a9 w.heap.size 85 13 (.slice (some ⟨g38,0,none⟩) 1 1) (([⟨(heard c g).t.my,(heard c g).t.port,ag ((heard c g).s),(heard c g).r.next,16,wO ((heard c g).r),⟨0,(-1),false,false,0,0⟩,(⟨#[]⟩ : ByteArray)⟩] : List Seg).map ap)) (by simp)))) (by intro r hr; obtain ⟨x,hx,rfl⟩ := List.mem_map.1 hr; exact ⟨rfl,by simp [ap,Value.oneCell']⟩) (by (try simp only [List.length_map,List.length_append,List.length_cons,List.length_nil,List.length_take,List.length_drop,maxLen]); omega) (by (try simp only [List.length_map,List.length_append,List.length_cons,List.length_nil,List.length_take,List.length_drop,maxLen]); omega)) ?_
 rintro ⟨v39a,v39c⟩
 refine aU [4,9,11,12] [(12,.v (.slice v39a (((pump (heard c g) ((heard c g).window)).2 ++ ([⟨(heard c g).t.my,(heard c g).t.port,ag ((heard c g).s),(heard c g).r.next,16,wO ((heard c g).r),⟨0,(-1),false,false,0,0⟩,(⟨#[]⟩ : ByteArray)⟩] : List Seg)).length) v39c))] <| kQ <| ba [4,5,6] [(5,.v (.slice v39a (((pump (heard c g) ((heard c g).window)).2 ++ ([⟨(heard c g).t.my,(heard c g).t.port,ag ((heard c g).s),(heard c g).r.next,16,wO ((heard c g).r),⟨0,(-1),false,false,0,0⟩,(⟨#[]⟩ : ByteArray)⟩] : List Seg)).length) v39c)),(6,aI (ax c g))] 2 ⟨50,a6 (pump (heard c g) ((heard c g).window)).1 (.slice v33a ((pump (heard c g) ((heard c g).window)).1.r.held.length) v33c)⟩ <| kR ?_
 have hmod : ae c g = (((pump (heard c g) ((heard c g).window)).1),((pump (heard c g) ((heard c g).window)).2 ++ ([⟨(heard c g).t.my,(heard c g).t.port,ag ((heard c g).s),(heard c g).r.next,16,wO ((heard c g).r),⟨0,(-1),false,false,0,0⟩,(⟨#[]⟩ : ByteArray)⟩] : List Seg)),(ax c g)) := by first | (simp [ae,cz,bQ, *]; done) | grind [ae,cz,bQ]
 exact ⟨[.agg (a6 (pump (heard c g) ((heard c g).window)).1 (.slice v33a ((pump (heard c g) ((heard c g).window)).1.r.held.length) v33c)).toArray,.slice v39a (((pump (heard c g) ((heard c g).window)).2 ++ ([⟨(heard c g).t.my,(heard c g).t.port,ag ((heard c g).s),(heard c g).r.next,16,wO ((heard c g).r),⟨0,(-1),false,false,0,0⟩,(⟨#[]⟩ : ByteArray)⟩] : List Seg)).length) v39c,iI (ax c g)],by kernel_rfl,fun w' hb hf ha => by rw [hmod]; exact xo2 ((v33a,v33c),(v39a,v39c)) rfl rfl (pO (hf _ m2) hB) (pR (hf _ m0) hB) (Apart.sub2 ha (i := 2) (j := 0) rfl rfl (by decide) rfl (fun b h => h) (fun b h => bl h)) hb⟩
 have h37p := cI h37
 refine kK <| kQ <| cv [4,5,6] ⟨[(4,.p 2 0),(5,.v (.slice v34a ((pump (heard c g) ((heard c g).window)).2.length) v34c)),(6,aI (ax c g))],[⟨50,a6 c (cS Z c Y)⟩,⟨85,bE g⟩,⟨50,a6 (pump (heard c g) ((heard c g).window)).1 (.slice v33a ((pump (heard c g) ((heard c g).window)).1.r.held.length) v33c)⟩,⟨50,a6 (heard c g) (.slice v30a ((heard c g).r.held.length) v30c)⟩,⟨85,[iI ((heard c g).t.my),iI ((heard c g).t.port),iI (ag ((heard c g).s)),iI ((heard c g).r.next),iI 16,iI (wO ((heard c g).r)),iI 0,iI (-1),.bool false,.bool false,iI 0,iI 0,.string (⟨#[]⟩ : ByteArray)]⟩,⟨50,a6 (pump (heard c g) ((heard c g).window)).1 (.slice v33a ((pump (heard c g) ((heard c g).window)).1.r.held.length) v33c)⟩],[],[aC w.heap.size (.slice v33a ((pump (heard c g) ((heard c g).window)).1.r.held.length) v33c) 2 ((pump (heard c g) ((heard c g).window)).1.r.held.map pC),a9 w.heap.size 85 13 (.slice v34a ((pump (heard c g) ((heard c g).window)).2.length) v34c) ((pump (heard c g) ((heard c g).window)).2.map ap),aC w.heap.size (.slice v30a ((heard c g).r.held.length) v30c) 2 ((heard c g).r.held.map pC),a9 w.heap.size 85 13 (.slice (some ⟨g2,0,none⟩) 0 0) (([] : List Seg).map ap),aC w.heap.size (cS v1a c v1c) 2 (c.r.held.map pC),cH Z c Y]⟩ <| kR ?_
 have hmod : ae c g = (((pump (heard c g) ((heard c g).window)).1),((pump (heard c g) ((heard c g).window)).2),(ax c g)) := by first | (simp [ae,cz,bQ, *]; done) | grind [ae,cz,bQ]
 exact ⟨[.agg (a6 (pump (heard c g) ((heard c g).window)).1 (.slice v33a ((pump (heard c g) ((heard c g).window)).1.r.held.length) v33c)).toArray,.slice v34a ((pump (heard c g) ((heard c g).window)).2.length) v34c,iI (ax c g)],by kernel_rfl,fun w' hb hf ha => by rw [hmod]; exact xo2 ((v33a,v33c),(v34a,v34c)) rfl rfl (pO (hf _ m0) hB) (pR (hf _ m1) hB) (Apart.sub2 ha (i := 0) (j := 1) rfl rfl (by decide) rfl (fun b h => h) (fun b h => bl h)) hb⟩
 have h36p := of_decide_eq_false h36
 refine aU [4,9,10,11,12,78] [(78,aB false)] <| kN <| kK <| kQ <| cv [4,5,6] ⟨[(4,.p 2 0),(5,.v (.slice v34a ((pump (heard c g) ((heard c g).window)).2.length) v34c)),(6,aI (ax c g))],[⟨50,a6 c (cS Z c Y)⟩,⟨85,bE g⟩,⟨50,a6 (pump (heard c g) ((heard c g).window)).1 (.slice v33a ((pump (heard c g) ((heard c g).window)).1.r.held.length) v33c)⟩,⟨50,a6 (heard c g) (.slice v30a ((heard c g).r.held.length) v30c)⟩,⟨85,[iI ((heard c g).t.my),iI ((heard c g).t.port),iI (ag ((heard c g).s)),iI ((heard c g).r.next),iI 16,iI (wO ((heard c g).r)),iI 0,iI (-1),.bool false,.bool false,iI 0,iI 0,.string (⟨#[]⟩ : ByteArray)]⟩,⟨50,a6 (pump (heard c g) ((heard c g).window)).1 (.slice v33a ((pump (heard c g) ((heard c g).window)).1.r.held.length) v33c)⟩],[],[aC w.heap.size (.slice v33a ((pump (heard c g) ((heard c g).window)).1.r.held.length) v33c) 2 ((pump (heard c g) ((heard c g).window)).1.r.held.map pC),a9 w.heap.size 85 13 (.slice v34a ((pump (heard c g) ((heard c g).window)).2.length) v34c) ((pump (heard c g) ((heard c g).window)).2.map ap),aC w.heap.size (.slice v30a ((heard c g).r.held.length) v30c) 2 ((heard c g).r.held.map pC),a9 w.heap.size 85 13 (.slice (some ⟨g2,0,none⟩) 0 0) (([] : List Seg).map ap),aC w.heap.size (cS v1a c v1c) 2 (c.r.held.map pC),cH Z c Y]⟩ ?_
 refine kR ?_
 have hmod : ae c g = (((pump (heard c g) ((heard c g).window)).1),((pump (heard c g) ((heard c g).window)).2),(ax c g)) := by first | (simp [ae,cz,bQ, *]; done) | grind [ae,cz,bQ]
 exact ⟨[.agg (a6 (pump (heard c g) ((heard c g).window)).1 (.slice v33a ((pump (heard c g) ((heard c g).window)).1.r.held.length) v33c)).toArray,.slice v34a ((pump (heard c g) ((heard c g).window)).2.length) v34c,iI (ax c g)],by kernel_rfl,fun w' hb hf ha => by rw [hmod]; exact xo2 ((v33a,v33c),(v34a,v34c)) rfl rfl (pO (hf _ m0) hB) (pR (hf _ m1) hB) (Apart.sub2 ha (i := 0) (j := 1) rfl rfl (by decide) rfl (fun b h => h) (fun b h => bl h)) hb⟩
theorem l1New_c (J : List Int) (A : Option Addr) (cap : Nat) (w : World) (hl : Sl w (sJ A J cap) 1 (J.map bR)) (hn : J.length ≤ 1048576) : Calls Try.prog 10 #[.slice A J.length cap] w fun e w' => ∃ y : {g : Nat // ¬ (sQ A J cap).blk g}, e = .returned (gP y.1) ∧ (eU w.heap.size y.1 59 (sJ A J cap) J.length).p w' ∧ Below w.heap.size w w' := by
 have hq_code := Sl.capLe hl
 refine cn (args := [.slice A J.length cap]) (fn := Try.f10) [sQ A J cap] Try.func10 rfl Try.ntmps10 rfl (by simp only [List.mem_cons,List.not_mem_nil,or_false,forall_eq]; exact ⟨rfl,hl⟩) ?_
 refine kQ <| cv [0] ⟨[(0,.v (sJ A J cap))],[],[],[sQ A J cap]⟩ <| kQ <| aU [0,3] [(3,aI (K6.wrap (28655 + ((J.length : Nat) : Int))))] ?_
 refine kS <| kQ <| aU [0,3,4] [(4,aI 0)] <| aj <| bI (α := {x : Nat × Int // (fun (i : Nat) (h : Int) => i ≤ J.length) x.1 x.2}) (fun x => (fun (i : Nat) (h : Int) => (⟨[(0,.v (sJ A J cap)),(3,aI h),(4,aI (i : Int))],[],[],[sQ A J cap]⟩ : St)) x.1.1 x.1.2) (fun x => (fun (i : Nat) (h : Int) => J.length - i) x.1.1 x.1.2) ⟨(0,K6.wrap (28655 + ((J.length : Nat) : Int))),Nat.zero_le _⟩ (kF 0 0 [0,3,4]) ?_
 rintro ⟨⟨i,h⟩,hi⟩
 try dsimp only
 try dsimp only at hi
 refine kS <| kQ <| dK 5 [0,3,4,12] [(12,aB (decide ((i : Int) < ((J.length : Nat) : Int))))] <| kP 12 (decide ((i : Int) < ((J.length : Nat) : Int))) (fun h1 => ?_) (fun h1 => ?_)
 have h1p := of_decide_eq_true h1
 have hlt : i < J.length := by simpa using h1
 obtain ⟨z,hz⟩ : ∃ z,J[i]? = some z := ⟨_,List.getElem?_eq_getElem hlt⟩
 refine aU [0,3,4,15] [(15,aB (decide ((i : Int) < 4000)))] <| kC (decide ((i : Int) < 4000)) (fun h2 => ?_) (fun h2 => ?_)
 have h2p := of_decide_eq_true h2
 refine kK <| kS <| aj <| kG <| fe (kd := .i64) (T := 22) (e := 5) (K := 1) 4 [0,3,4,19,20,21] [(19,aI (K6.wrap (h * 131))),(20,.v (sJ A J cap)),(21,aI (i : Int))] i [.int .u8 z] (sQ A J cap) (by kernel_rfl) rfl (by kernel_rfl) rfl rfl (by kernel_rfl) (by kernel_rfl) (by kernel_rfl) (by kernel_rfl) hlt (by simp) (fun w h => h) (fun b h => h) (by simp only [List.getElem?_map,hz]; rfl) ?_
 refine aU [0,3,4] [(3,aI (K6.wrap (BitVec.ofInt 64 (K6.wrap ((K6.wrap ((K6.wrap (h * 131)) + (K6.wrap z))) + 7)) &&& BitVec.ofInt 64 1073741823).toNat))] <| kG <| dK 3 [0,3,4] [(4,aI (K6.wrap ((i : Int) + 1)))] <| cJ [0,3,4] [(4,aI (K6.wrap ((i : Int) + 1)))] [(4,aI ((i : Int) + 1))] (by rw [show (K6.wrap ((i : Int) + 1)) = ((i : Int) + 1) from al (by omega) (by omega)]) (by kernel_rfl) ?_
 refine aU [0,3,4] [] ?_
 exact ⟨⟨(i + 1,K6.wrap (BitVec.ofInt 64 (K6.wrap ((K6.wrap ((K6.wrap (h * 131)) + (K6.wrap z))) + 7)) &&& BitVec.ofInt 64 1073741823).toNat),hlt⟩,kF 0 0 [0,3,4],by show (fun (i : Nat) (h : Int) => J.length - i) (i + 1) (K6.wrap (BitVec.ofInt 64 (K6.wrap ((K6.wrap ((K6.wrap (h * 131)) + (K6.wrap z))) + 7)) &&& BitVec.ofInt 64 1073741823).toNat) < J.length - i; (dsimp only; omega)⟩
 have h2p := of_decide_eq_false h2
 refine c5 <| kQ <| kOS 2 [28,29] [(28,.v (sJ A J cap)),(29,aI h)] (.agg #[.slice A J.length cap,iI 0,iI h]) rfl (fun _ _ _ ww hr => aH [(0,.slice A J.length cap),(2,iI h)] hr.1 rfl (by kernel_rfl) (by kernel_rfl) ww) ?_
 refine kEA [2] [(2,.p 0 0)] [⟨59,[.slice A J.length cap,iI 0,iI h]⟩] <| xw_pin ?_
 intro g hg hgn
 refine kR ?_
 exact ⟨[gP g],by kernel_rfl,fun w' hb hf => ⟨⟨g,hgn _ (by simp)⟩,rfl,⟨hg,0,h,Nat.zero_le _,(hf (fv w.heap.size g 59 [.slice A J.length cap,iI 0,iI h]) (by simp)).2⟩,hb⟩⟩
 have h1p := of_decide_eq_false h1
 refine aU [0,3,4,15] [(15,aB false)] <| kN <| c5 <| kQ <| kOS 2 [28,29] [(28,.v (sJ A J cap)),(29,aI h)] (.agg #[.slice A J.length cap,iI 0,iI h]) rfl (fun _ _ _ ww hr => aH [(0,.slice A J.length cap),(2,iI h)] hr.1 rfl (by kernel_rfl) (by kernel_rfl) ww) ?_
 refine kEA [2] [(2,.p 0 0)] [⟨59,[.slice A J.length cap,iI 0,iI h]⟩] <| xw_pin ?_
 intro g hg hgn
 refine kR ?_
 exact ⟨[gP g],by kernel_rfl,fun w' hb hf => ⟨⟨g,hgn _ (by simp)⟩,rfl,⟨hg,0,h,Nat.zero_le _,(hf (fv w.heap.size g 59 [.slice A J.length cap,iI 0,iI h]) (by simp)).2⟩,hb⟩⟩
theorem l1Byte_c (g : Nat) (J : List Int) (A : Option Addr) (cap : Nat)  (w : World) (B : Nat) (hB : B ≤ w.heap.size) (hc : (cF B g A J cap).p w) (hl : Sl w (sJ A J cap) 1 (J.map bR)) (hap : ¬ (sQ A J cap).blk g) (hn : J.length ≤ 1048576)  : Calls Try.prog 27 #[gP g] w fun e w' => ∃ y : {y : Int // 0 ≤ y ∧ y ≤ 255}, e = .returned (iI y.1) ∧ (cF B g A J cap).p w' ∧ Chgd (fun b => b = g) w w' := by
 have hq_code := Sl.capLe hl
 obtain ⟨hBg,i,h,hi,hg⟩ := hc
 refine ci (args := [gP g]) (fn := Try.f27) [fv B g 59 [.slice A J.length cap,iI (i : Int),iI h],sQ A J cap,bd w (fun b => b = g)] B Try.func27 rfl Try.ntmps27 rfl hB (by simp only [List.mem_cons,List.not_mem_nil,or_false,forall_eq_or_imp,forall_eq]; exact ⟨⟨hBg,hg⟩,hl,bn w _⟩) (apart_cell hap rfl) ?_
 refine kQ <| cv [0] ⟨[(0,aP g)],[],[],[fv B g 59 [.slice A J.length cap,iI (i : Int),iI h],sQ A J cap,bd w (fun b => b = g)]⟩ <| kQ <| fD 2 [0,4,5] [(4,aP g),(5,aP g)] (gP g) rfl (fun _ _ _ ww hr => fy (b := g) (m := 0) hr.1 rfl (by kernel_rfl) ww) ?_
 refine fD 0 [0,4,6] [] (.pointer (some ⟨g,2,none⟩)) rfl (fun _ _ _ ww hr => df (sz := 1) (b := g) (m := 0) hr.1 rfl Try.underlying59 rfl (by kernel_rfl) rfl (by kernel_rfl) rfl) ?_
 refine fD 0 [0,4,7] [] (iI h) rfl (fun _ _ _ ww hr => ldP_run (off := 2) (B := B) (g := g) (T := 59) (cs := [.slice A J.length cap,iI (i : Int),iI h]) hr rfl (by kernel_rfl) (by simp) (by kernel_rfl)) ?_
 refine fD 2 [0,4,10] [(10,aI (K6.wrap ((K6.wrap (h * 6364136223846793005)) + 1442695040888963407)))] (gP g) rfl (fun _ _ _ ww hr => fy (b := g) (m := 0) hr.1 rfl (by kernel_rfl) ww) ?_
 refine fD 0 [0,10,11] [] (.pointer (some ⟨g,2,none⟩)) rfl (fun _ _ _ ww hr => df (sz := 1) (b := g) (m := 0) hr.1 rfl Try.underlying59 rfl (by kernel_rfl) rfl (by kernel_rfl) rfl) ?_
 refine xl_hs 0 [0,10,12] ⟨[(0,aP g),(10,aI (K6.wrap ((K6.wrap (h * 6364136223846793005)) + 1442695040888963407))),(12,.v (.pointer (some ⟨g,2,none⟩)))],[],[],[fv B g 59 [.slice A J.length cap,iI (i : Int),iI h],sQ A J cap,bd w (fun b => b = g)]⟩ (by kernel_rfl) rfl (by kernel_rfl) rfl (by kernel_rfl) (hs_stP (g := g) (T := 59) (off := 2) (v := (iI (K6.wrap ((K6.wrap (h * 6364136223846793005)) + 1442695040888963407)))) (i := 0) (B := B) (cs := [.slice A J.length cap,iI (i : Int),iI h]) [iI (K6.wrap ((K6.wrap (h * 6364136223846793005)) + 1442695040888963407))] (cs' := [.slice A J.length cap,iI (i : Int),iI (K6.wrap ((K6.wrap (h * 6364136223846793005)) + 1442695040888963407))]) rfl (by kernel_rfl) (by kernel_rfl) rfl (by kernel_rfl) rfl (by kernel_rfl) rfl rfl (bC w B)) ?_
 refine aU [0] [] <| kS <| d4 <| xws_cell (B := B) (g := g) (T := 59) (cs := [.slice A J.length cap,iI (i : Int),iI (K6.wrap ((K6.wrap (h * 6364136223846793005)) + 1442695040888963407))]) (fun _ _ h => h) (by simp) ?_
 refine cl [] (by kernel_rfl) (fun ρ σ hq1 => ?_)
 refine d3 [0,5] [18,13,0] 11 [(18,aP g),(13,aP g)] <| kX 1 (gP g) rfl (fun _ _ ww hA => fy (b := g) (m := 0) hA rfl (by kernel_rfl) ww) ?_
 refine kX 2 (.pointer (some ⟨g,2,none⟩)) rfl (fun _ _ ww hA => df (sz := 1) (b := g) (m := 0) hA rfl Try.underlying59 rfl (by kernel_rfl) rfl (by kernel_rfl) rfl) ?_
 refine xe_opH 3 (iI (K6.wrap ((K6.wrap (h * 6364136223846793005)) + 1442695040888963407))) _ rfl (by kernel_rfl) (by kernel_rfl) (by kernel_rfl) (fun _ _ h => h) (by kernel_rfl) rfl (fun _ _ ww hA hS => fS (g := g) (off := 2) (cs := [.slice A J.length cap,iI (i : Int),iI (K6.wrap ((K6.wrap (h * 6364136223846793005)) + 1442695040888963407))]) hA rfl (by kernel_rfl) (rd_row hS (h := 0) rfl hq1.2) (by kernel_rfl)) rfl ?_
 refine kX 4 (iI (Int.fdiv (K6.wrap ((K6.wrap (h * 6364136223846793005)) + 1442695040888963407)) (2 ^ (33 : Int).toNat))) rfl (fun _ _ ww hA => ck hA rfl (by kernel_rfl) (by kernel_rfl) (shr_run (k' := .u64) (by decide) (by decide) ww)) ?_
 refine kX 6 (gP g) rfl (fun _ _ ww hA => fy (b := g) (m := 0) hA rfl (by kernel_rfl) ww) ?_
 refine kX 7 (.pointer (some ⟨g,2,none⟩)) rfl (fun _ _ ww hA => df (sz := 1) (b := g) (m := 0) hA rfl Try.underlying59 rfl (by kernel_rfl) rfl (by kernel_rfl) rfl) ?_
 refine xe_opH 8 (iI (K6.wrap ((K6.wrap (h * 6364136223846793005)) + 1442695040888963407))) _ rfl (by kernel_rfl) (by kernel_rfl) (by kernel_rfl) (fun _ _ h => h) (by kernel_rfl) rfl (fun _ _ ww hA hS => fS (g := g) (off := 2) (cs := [.slice A J.length cap,iI (i : Int),iI (K6.wrap ((K6.wrap (h * 6364136223846793005)) + 1442695040888963407))]) hA rfl (by kernel_rfl) (rd_row hS (h := 0) rfl hq1.2) (by kernel_rfl)) rfl ?_
 refine kX 9 (iI (Int.fdiv (K6.wrap ((K6.wrap (h * 6364136223846793005)) + 1442695040888963407)) (2 ^ (45 : Int).toNat))) rfl (fun _ _ ww hA => ck hA rfl (by kernel_rfl) (by kernel_rfl) (shr_run (k' := .u64) (by decide) (by decide) ww)) ?_
 refine kX 10 (iI (K6.wrap (BitVec.ofInt 64 (Int.fdiv (K6.wrap ((K6.wrap (h * 6364136223846793005)) + 1442695040888963407)) (2 ^ (33 : Int).toNat)) ^^^ BitVec.ofInt 64 (Int.fdiv (K6.wrap ((K6.wrap (h * 6364136223846793005)) + 1442695040888963407)) (2 ^ (45 : Int).toNat))).toNat)) rfl (fun _ _ ww hA => ck hA rfl (by kernel_rfl) (by kernel_rfl) (xor_run ww)) ?_
 refine d3 [11,12] [3,0] 0 [(3,aI (K6.wrap (BitVec.ofInt 64 (K6.wrap (BitVec.ofInt 64 (Int.fdiv (K6.wrap ((K6.wrap (h * 6364136223846793005)) + 1442695040888963407)) (2 ^ (33 : Int).toNat)) ^^^ BitVec.ofInt 64 (Int.fdiv (K6.wrap ((K6.wrap (h * 6364136223846793005)) + 1442695040888963407)) (2 ^ (45 : Int).toNat))).toNat) &&& BitVec.ofInt 64 255).toNat))] <| kZ <| kS <| kS <| xw_wk (wkf (s' := ⟨[(3,aI (K6.wrap (BitVec.ofInt 64 (K6.wrap (BitVec.ofInt 64 (Int.fdiv (K6.wrap ((K6.wrap (h * 6364136223846793005)) + 1442695040888963407)) (2 ^ (33 : Int).toNat)) ^^^ BitVec.ofInt 64 (Int.fdiv (K6.wrap ((K6.wrap (h * 6364136223846793005)) + 1442695040888963407)) (2 ^ (45 : Int).toNat))).toNat) &&& BitVec.ofInt 64 255).toNat)),(0,aP g)],[],[],[fv B g 59 [.slice A J.length cap,iI (i : Int),iI (K6.wrap ((K6.wrap (h * 6364136223846793005)) + 1442695040888963407))],sQ A J cap,bd w (fun b => b = g)]⟩) 0 0 [3,0] (by kernel_rfl)) ?_
 refine d4 <| xws_cell (B := B) (g := g) (T := 59) (cs := [.slice A J.length cap,iI (i : Int),iI (K6.wrap ((K6.wrap (h * 6364136223846793005)) + 1442695040888963407))]) (fun _ _ h => h) (by simp) ?_
 refine cl [] (by kernel_rfl) (fun ρ σ hq2 => ?_)
 refine d3 [0,4] [29,25,3,0] 8 [(29,aP g),(25,aP g)] <| kX 1 (gP g) rfl (fun _ _ ww hA => fy (b := g) (m := 0) hA rfl (by kernel_rfl) ww) ?_
 refine kX 2 (.pointer (some ⟨g,1,none⟩)) rfl (fun _ _ ww hA => df (sz := 1) (b := g) (m := 0) hA rfl Try.underlying59 rfl (by kernel_rfl) rfl (by kernel_rfl) rfl) ?_
 refine xe_opH 3 (iI (i : Int)) _ rfl (by kernel_rfl) (by kernel_rfl) (by kernel_rfl) (fun _ _ h => h) (by kernel_rfl) rfl (fun _ _ ww hA hS => fS (g := g) (off := 1) (cs := [.slice A J.length cap,iI (i : Int),iI (K6.wrap ((K6.wrap (h * 6364136223846793005)) + 1442695040888963407))]) hA rfl (by kernel_rfl) (rd_row hS (h := 0) rfl hq2.2) (by kernel_rfl)) rfl ?_
 refine kX 5 (gP g) rfl (fun _ _ ww hA => fy (b := g) (m := 0) hA rfl (by kernel_rfl) ww) ?_
 refine kX 6 (gP g) rfl (fun _ _ ww hA => df (sz := 1) (b := g) (m := 0) hA rfl Try.underlying59 rfl (by kernel_rfl) rfl (by kernel_rfl) rfl) ?_
 refine xe_opH 7 (sJ A J cap) _ rfl (by kernel_rfl) (by kernel_rfl) (by kernel_rfl) (fun _ _ h => h) (by kernel_rfl) rfl (fun _ _ ww hA hS => fS (g := g) (off := 0) (cs := [.slice A J.length cap,iI (i : Int),iI (K6.wrap ((K6.wrap (h * 6364136223846793005)) + 1442695040888963407))]) hA rfl (by kernel_rfl) (rd_row hS (h := 0) rfl hq2.2) (by kernel_rfl)) rfl ?_
 refine d3 [8,9] [34,3,0] 0 [(34,aB (decide ((i : Int) < ((J.length : Nat) : Int))))] <| kZ <| kC (decide ((i : Int) < ((J.length : Nat) : Int))) (fun h3 => ?_) (fun h3 => ?_)
 have h3p := of_decide_eq_true h3
 have hlt : i < J.length := by simpa using h3
 obtain ⟨z,hz⟩ : ∃ z,J[i]? = some z := ⟨_,List.getElem?_eq_getElem hlt⟩
 refine kS <| xw_wk (wkf (s' := ⟨[(34,aB (decide ((i : Int) < ((J.length : Nat) : Int)))),(3,aI (K6.wrap (BitVec.ofInt 64 (K6.wrap (BitVec.ofInt 64 (Int.fdiv (K6.wrap ((K6.wrap (h * 6364136223846793005)) + 1442695040888963407)) (2 ^ (33 : Int).toNat)) ^^^ BitVec.ofInt 64 (Int.fdiv (K6.wrap ((K6.wrap (h * 6364136223846793005)) + 1442695040888963407)) (2 ^ (45 : Int).toNat))).toNat) &&& BitVec.ofInt 64 255).toNat)),(0,aP g)],[],[],[fv B g 59 [.slice A J.length cap,iI (i : Int),iI (K6.wrap ((K6.wrap (h * 6364136223846793005)) + 1442695040888963407))],sQ A J cap,bd w (fun b => b = g)]⟩) 0 0 [34,3,0] (by kernel_rfl)) ?_
 refine d4 <| dm (K := 1) (j := i) [.int .u8 z] (sQ A J cap) (fun _ _ h => h) (by simp) (fun w h => h) (fun b h => h) (by simp only [List.getElem?_map,hz]; rfl) (fun bq4 offq4 hAq4 => ?_)
 refine xws_cell (B := B) (g := g) (T := 59) (cs := [.slice A J.length cap,iI (i : Int),iI (K6.wrap ((K6.wrap (h * 6364136223846793005)) + 1442695040888963407))]) (fun _ _ h => h) (by simp) ?_
 refine cl [] (by kernel_rfl) (fun ρ σ hq5 => ?_)
 refine cK [0,1,5] [40,36,35,3,0] 12 [(40,aP g),(36,aP g),(35,aI (K6.wrap (BitVec.ofInt 64 (K6.wrap (BitVec.ofInt 64 (Int.fdiv (K6.wrap ((K6.wrap (h * 6364136223846793005)) + 1442695040888963407)) (2 ^ (33 : Int).toNat)) ^^^ BitVec.ofInt 64 (Int.fdiv (K6.wrap ((K6.wrap (h * 6364136223846793005)) + 1442695040888963407)) (2 ^ (45 : Int).toNat))).toNat) &&& BitVec.ofInt 64 255).toNat)),(3,aI (K6.wrap (BitVec.ofInt 64 (K6.wrap (BitVec.ofInt 64 (Int.fdiv (K6.wrap ((K6.wrap (h * 6364136223846793005)) + 1442695040888963407)) (2 ^ (33 : Int).toNat)) ^^^ BitVec.ofInt 64 (Int.fdiv (K6.wrap ((K6.wrap (h * 6364136223846793005)) + 1442695040888963407)) (2 ^ (45 : Int).toNat))).toNat) &&& BitVec.ofInt 64 255).toNat)),(0,aP g)] <| kX 2 (gP g) rfl (fun _ _ ww hA => fy (b := g) (m := 0) hA rfl (by kernel_rfl) ww) ?_
 refine kX 3 (gP g) rfl (fun _ _ ww hA => df (sz := 1) (b := g) (m := 0) hA rfl Try.underlying59 rfl (by kernel_rfl) rfl (by kernel_rfl) rfl) ?_
 refine xe_opH 4 (sJ A J cap) _ rfl (by kernel_rfl) (by kernel_rfl) (by kernel_rfl) (fun _ _ h => h) (by kernel_rfl) rfl (fun _ _ ww hA hS => fS (g := g) (off := 0) (cs := [.slice A J.length cap,iI (i : Int),iI (K6.wrap ((K6.wrap (h * 6364136223846793005)) + 1442695040888963407))]) hA rfl (by kernel_rfl) (rd_row hS (h := 1) rfl hq5.2) (by kernel_rfl)) rfl ?_
 refine kX 6 (gP g) rfl (fun _ _ ww hA => fy (b := g) (m := 0) hA rfl (by kernel_rfl) ww) ?_
 refine kX 7 (.pointer (some ⟨g,1,none⟩)) rfl (fun _ _ ww hA => df (sz := 1) (b := g) (m := 0) hA rfl Try.underlying59 rfl (by kernel_rfl) rfl (by kernel_rfl) rfl) ?_
 refine xe_opH 8 (iI (i : Int)) _ rfl (by kernel_rfl) (by kernel_rfl) (by kernel_rfl) (fun _ _ h => h) (by kernel_rfl) rfl (fun _ _ ww hA hS => fS (g := g) (off := 1) (cs := [.slice A J.length cap,iI (i : Int),iI (K6.wrap ((K6.wrap (h * 6364136223846793005)) + 1442695040888963407))]) hA rfl (by kernel_rfl) (rd_row hS (h := 1) rfl hq5.2) (by kernel_rfl)) rfl ?_
 refine cO (kd := .i64) (T := 22) (e := 5) (K := 1) (j := i) (A := A) (len := J.length) (cap := cap) 9 0 _ rfl (by kernel_rfl) (by kernel_rfl) (by kernel_rfl) (fun _ _ h => h) (by kernel_rfl) rfl rfl (by kernel_rfl) (by kernel_rfl) (by kernel_rfl) (by kernel_rfl) hlt hAq4 hq5.1.2 (by kernel_rfl) rfl ?_
 refine d3 [10,11,12,13,14] [3,0] 0 [(3,aI (K6.wrap (BitVec.ofInt 64 (K6.wrap ((K6.wrap (BitVec.ofInt 64 (K6.wrap (BitVec.ofInt 64 (Int.fdiv (K6.wrap ((K6.wrap (h * 6364136223846793005)) + 1442695040888963407)) (2 ^ (33 : Int).toNat)) ^^^ BitVec.ofInt 64 (Int.fdiv (K6.wrap ((K6.wrap (h * 6364136223846793005)) + 1442695040888963407)) (2 ^ (45 : Int).toNat))).toNat) &&& BitVec.ofInt 64 255).toNat) + (K6.wrap z))) &&& BitVec.ofInt 64 255).toNat))] <| kZ <| kG <| fD 2 [3,49,50] [(49,aP g),(50,aP g)] (gP g) rfl (fun _ _ _ ww hr => fy (b := g) (m := 0) hr.1 rfl (by kernel_rfl) ww) ?_
 refine fD 0 [3,49,51] [] (.pointer (some ⟨g,1,none⟩)) rfl (fun _ _ _ ww hr => df (sz := 1) (b := g) (m := 0) hr.1 rfl Try.underlying59 rfl (by kernel_rfl) rfl (by kernel_rfl) rfl) ?_
 refine fD 0 [3,49,52] [] (iI (i : Int)) rfl (fun _ _ _ ww hr => ldP_run (off := 1) (B := B) (g := g) (T := 59) (cs := [.slice A J.length cap,iI (i : Int),iI (K6.wrap ((K6.wrap (h * 6364136223846793005)) + 1442695040888963407))]) hr rfl (by kernel_rfl) (by simp) (by kernel_rfl)) ?_
 refine fD 1 [3,49,54] [(54,aI (K6.wrap ((i : Int) + 1)))] (gP g) rfl (fun _ _ _ ww hr => fy (b := g) (m := 0) hr.1 rfl (by kernel_rfl) ww) ?_
 refine fD 0 [3,54,55] [] (.pointer (some ⟨g,1,none⟩)) rfl (fun _ _ _ ww hr => df (sz := 1) (b := g) (m := 0) hr.1 rfl Try.underlying59 rfl (by kernel_rfl) rfl (by kernel_rfl) rfl) ?_
 refine xl_hs 0 [3,54,56] ⟨[(3,aI (K6.wrap (BitVec.ofInt 64 (K6.wrap ((K6.wrap (BitVec.ofInt 64 (K6.wrap (BitVec.ofInt 64 (Int.fdiv (K6.wrap ((K6.wrap (h * 6364136223846793005)) + 1442695040888963407)) (2 ^ (33 : Int).toNat)) ^^^ BitVec.ofInt 64 (Int.fdiv (K6.wrap ((K6.wrap (h * 6364136223846793005)) + 1442695040888963407)) (2 ^ (45 : Int).toNat))).toNat) &&& BitVec.ofInt 64 255).toNat) + (K6.wrap z))) &&& BitVec.ofInt 64 255).toNat)),(54,aI (K6.wrap ((i : Int) + 1))),(56,.v (.pointer (some ⟨g,1,none⟩)))],[],[[.int .u8 z],[.slice A J.length cap,iI (i : Int),iI (K6.wrap ((K6.wrap (h * 6364136223846793005)) + 1442695040888963407))]],[fv B g 59 [.slice A J.length cap,iI (i : Int),iI (K6.wrap ((K6.wrap (h * 6364136223846793005)) + 1442695040888963407))],sQ A J cap,bd w (fun b => b = g)]⟩ (by kernel_rfl) rfl (by kernel_rfl) rfl (by kernel_rfl) (hs_stP (g := g) (T := 59) (off := 1) (v := (iI (K6.wrap ((i : Int) + 1)))) (i := 0) (B := B) (cs := [.slice A J.length cap,iI (i : Int),iI (K6.wrap ((K6.wrap (h * 6364136223846793005)) + 1442695040888963407))]) [iI (K6.wrap ((i : Int) + 1))] (cs' := [.slice A J.length cap,iI (K6.wrap ((i : Int) + 1)),iI (K6.wrap ((K6.wrap (h * 6364136223846793005)) + 1442695040888963407))]) rfl (by kernel_rfl) (by kernel_rfl) rfl (by kernel_rfl) rfl (by kernel_rfl) rfl rfl (bC w B)) ?_
 refine aU [3] [] <| kQ <| aD [2] [(2,aI (K6.wrap (BitVec.ofInt 64 (K6.wrap ((K6.wrap (BitVec.ofInt 64 (K6.wrap (BitVec.ofInt 64 (Int.fdiv (K6.wrap ((K6.wrap (h * 6364136223846793005)) + 1442695040888963407)) (2 ^ (33 : Int).toNat)) ^^^ BitVec.ofInt 64 (Int.fdiv (K6.wrap ((K6.wrap (h * 6364136223846793005)) + 1442695040888963407)) (2 ^ (45 : Int).toNat))).toNat) &&& BitVec.ofInt 64 255).toNat) + (K6.wrap z))) &&& BitVec.ofInt 64 255).toNat))] <| kR ?_
 exact ⟨[iI (K6.wrap (BitVec.ofInt 64 (K6.wrap ((K6.wrap (BitVec.ofInt 64 (K6.wrap (BitVec.ofInt 64 (Int.fdiv (K6.wrap ((K6.wrap (h * 6364136223846793005)) + 1442695040888963407)) (2 ^ (33 : Int).toNat)) ^^^ BitVec.ofInt 64 (Int.fdiv (K6.wrap ((K6.wrap (h * 6364136223846793005)) + 1442695040888963407)) (2 ^ (45 : Int).toNat))).toNat) &&& BitVec.ofInt 64 255).toNat) + (K6.wrap z))) &&& BitVec.ofInt 64 255).toNat)],by kernel_rfl,fun w' hb hf => ⟨⟨K6.wrap (BitVec.ofInt 64 (K6.wrap ((K6.wrap (BitVec.ofInt 64 (K6.wrap (BitVec.ofInt 64 (Int.fdiv (K6.wrap ((K6.wrap (h * 6364136223846793005)) + 1442695040888963407)) (2 ^ (33 : Int).toNat)) ^^^ BitVec.ofInt 64 (Int.fdiv (K6.wrap ((K6.wrap (h * 6364136223846793005)) + 1442695040888963407)) (2 ^ (45 : Int).toNat))).toNat) &&& BitVec.ofInt 64 255).toNat) + (K6.wrap z))) &&& BitVec.ofInt 64 255).toNat,and255 _⟩,rfl,⟨hBg,i + 1,K6.wrap ((K6.wrap (h * 6364136223846793005)) + 1442695040888963407),by omega,by have := (hf (fv B g 59 [.slice A J.length cap,iI (K6.wrap ((i : Int) + 1)),iI (K6.wrap ((K6.wrap (h * 6364136223846793005)) + 1442695040888963407))]) (by simp)).2; rw [show K6.wrap ((i : Int) + 1) = ((i + 1 : Nat) : Int) from by rw [al (by omega) (by omega)]; omega] at this; exact this⟩,ar (hf (bd w (fun b => b = g)) (by simp)) hb rfl rfl rfl⟩⟩
 have h3p := of_decide_eq_false h3
 refine kK <| kQ <| aD [2] [(2,aI (K6.wrap (BitVec.ofInt 64 (K6.wrap (BitVec.ofInt 64 (Int.fdiv (K6.wrap ((K6.wrap (h * 6364136223846793005)) + 1442695040888963407)) (2 ^ (33 : Int).toNat)) ^^^ BitVec.ofInt 64 (Int.fdiv (K6.wrap ((K6.wrap (h * 6364136223846793005)) + 1442695040888963407)) (2 ^ (45 : Int).toNat))).toNat) &&& BitVec.ofInt 64 255).toNat))] <| kR ?_
 exact ⟨[iI (K6.wrap (BitVec.ofInt 64 (K6.wrap (BitVec.ofInt 64 (Int.fdiv (K6.wrap ((K6.wrap (h * 6364136223846793005)) + 1442695040888963407)) (2 ^ (33 : Int).toNat)) ^^^ BitVec.ofInt 64 (Int.fdiv (K6.wrap ((K6.wrap (h * 6364136223846793005)) + 1442695040888963407)) (2 ^ (45 : Int).toNat))).toNat) &&& BitVec.ofInt 64 255).toNat)],by kernel_rfl,fun w' hb hf => ⟨⟨K6.wrap (BitVec.ofInt 64 (K6.wrap (BitVec.ofInt 64 (Int.fdiv (K6.wrap ((K6.wrap (h * 6364136223846793005)) + 1442695040888963407)) (2 ^ (33 : Int).toNat)) ^^^ BitVec.ofInt 64 (Int.fdiv (K6.wrap ((K6.wrap (h * 6364136223846793005)) + 1442695040888963407)) (2 ^ (45 : Int).toNat))).toNat) &&& BitVec.ofInt 64 255).toNat,and255 _⟩,rfl,⟨hBg,i,K6.wrap ((K6.wrap (h * 6364136223846793005)) + 1442695040888963407),hi,(hf (fv B g 59 [.slice A J.length cap,iI (i : Int),iI (K6.wrap ((K6.wrap (h * 6364136223846793005)) + 1442695040888963407))]) (by simp)).2⟩,ar (hf (bd w (fun b => b = g)) (by simp)) hb rfl rfl rfl⟩⟩
theorem ec {g : Nat} {J : List Int} {A : Option Addr} {cap : Nat}  {w0 : World} {fs : List Fact} {B : Nat} (hB : B ≤ w0.heap.size) (hap : ¬ (sQ A J cap).blk g)  (hn : J.length ≤ 1048576 := by omega) (h1 : cF B g A J cap ∈ fs := by simp) (h2 : sQ A J cap ∈ fs := by simp) : XCM Try.prog w0 fs (cF B g A J cap).blk 27 [gP g] (α := {y : Int // 0 ≤ y ∧ y ≤ 255}) (fun y => iI y.1) (fun _ => [cF B g A J cap]) := cE fun w hw hf => l1Byte_c g J A cap  w B (Nat.le_trans hB hw) (hf _ h1) (hf _ h2) hap hn  
theorem l1Below_c (g : Nat) (J : List Int) (A : Option Addr) (cap : Nat) (n : Int) (w : World) (B : Nat) (hB : B ≤ w.heap.size) (hc : (cF B g A J cap).p w) (hl : Sl w (sJ A J cap) 1 (J.map bR)) (hap : ¬ (sQ A J cap).blk g) (hn : J.length ≤ 1048576)  : Calls Try.prog 16 #[gP g, iI n] w fun e w' => ∃ y : {y : Int // 0 ≤ y ∧ (0 < n → y < n)}, e = .returned (iI y.1) ∧ (cF B g A J cap).p w' ∧ Chgd (fun b => b = g) w w' := by
 have hq_code := Sl.capLe hl
 have hBw : B ≤ (aw w B).heap.size := Nat.le_of_eq (aW hB).symm
 have hlo : ∀ (ww : World) (b : Nat),(cF B g A J cap).p ww → (cF B g A J cap).blk b → (aw w B).heap.size ≤ b := fun ww b h hb => Nat.le_trans (bC w B) (cQ h hb)
 refine ci (args := [gP g,iI n]) (fn := Try.f16) [cF B g A J cap,sQ A J cap,bd w (fun b => b = g)] B Try.func16 rfl Try.ntmps16 rfl hB (by simp only [List.mem_cons,List.not_mem_nil,or_false,forall_eq_or_imp,forall_eq]; exact ⟨hc,hl,bn w _⟩) (bX hap rfl) ?_
 refine kQ <| cv [0,1] ⟨[(0,aP g),(1,aI n)],[],[],[cF B g A J cap,sQ A J cap,bd w (fun b => b = g)]⟩ <| kS <| kQ <| aU [0,1,10] [(10,aB (decide (n ≤ 0)))] ?_
 refine kC (decide (n ≤ 0)) (fun h1 => ?_) (fun h1 => ?_)
 have h1p := of_decide_eq_true h1
 refine kQ <| aD [4] [(4,aI 0)] <| kR ?_
 exact ⟨[iI 0],by kernel_rfl,fun w' hb hf => ⟨⟨0,(by first | (exact ⟨by omega,fun _ => by omega⟩) | (exact tmod_bd (by omega) (by omega)))⟩,rfl,hf (cF B g A J cap) (by simp),ar (hf (bd w (fun b => b = g)) (by simp)) hb rfl rfl rfl⟩⟩
 have h1p := of_decide_eq_false h1
 refine kK <| kS <| kQ <| aU [0,1,12] [(12,aB (decide (n ≤ 256)))] ?_
 refine kC (decide (n ≤ 256)) (fun h2 => ?_) (fun h2 => ?_)
 have h2p := of_decide_eq_true h2
 refine kQ <| d2 1 [1,13] [(13,aP g)] 27 [gP g] (some 14) 0 rfl rfl hlo (ec hBw hap) ?_
 rintro ⟨y3,hy3⟩
 refine fD 1 [14,15] [(15,aI n)] (iI (Int.tmod y3 n)) rfl (fun _ _ _ ww hr => ck hr.1 rfl (by kernel_rfl) (by kernel_rfl) (rem_run (by first | decide | omega) ww)) ?_
 refine aD [4] [(4,aI (Int.tmod y3 n))] <| kR ?_
 exact ⟨[iI (Int.tmod y3 n)],by kernel_rfl,fun w' hb hf => ⟨⟨Int.tmod y3 n,(by first | (exact ⟨by omega,fun _ => by omega⟩) | (exact tmod_bd (by omega) (by omega)))⟩,rfl,hf (cF B g A J cap) (by simp),ar (hf (bd w (fun b => b = g)) (by simp)) hb rfl rfl rfl⟩⟩
 have h2p := of_decide_eq_false h2
 refine kK <| kQ <| d2 1 [0,1,17] [(17,aP g)] 27 [gP g] (some 18) 0 rfl rfl hlo (ec hBw hap) ?_
 rintro ⟨y4,hy4⟩
 refine aU [0,1,5] [(5,aI y4)] <| kQ <| d2 1 [0,1,5,19] [(19,aP g)] 27 [gP g] (some 20) 0 rfl rfl hlo (ec hBw hap) ?_
 rintro ⟨y5,hy5⟩
 refine aU [0,1,5,6] [(6,aI y5)] <| kQ <| d2 1 [0,1,5,6,21] [(21,aP g)] 27 [gP g] (some 22) 0 rfl rfl hlo (ec hBw hap) ?_
 rintro ⟨y6,hy6⟩
 refine aU [0,1,5,6,7] [(7,aI y6)] <| kQ <| d2 1 [1,5,6,7,23] [(23,aP g)] 27 [gP g] (some 24) 0 rfl rfl hlo (ec hBw hap) ?_
 rintro ⟨y7,hy7⟩
 refine aU [1,5,6,7,8] [(8,aI y7)] <| kQ <| kOS 11 [34,35] [(34,aI (K6.wrap ((K6.wrap ((K6.wrap ((K6.wrap (y4 * 16777216)) + (K6.wrap (y5 * 65536)))) + (K6.wrap (y6 * 256)))) + y7))),(35,aI n)] (iI (Int.tmod (K6.wrap ((K6.wrap ((K6.wrap ((K6.wrap (y4 * 16777216)) + (K6.wrap (y5 * 65536)))) + (K6.wrap (y6 * 256)))) + y7)) n)) rfl (fun _ _ _ ww hr => ck hr.1 rfl (by kernel_rfl) (by kernel_rfl) (rem_run (by first | decide | omega) ww)) ?_
 refine eo 1 [4] [(4,aI (Int.tmod (K6.wrap ((K6.wrap ((K6.wrap ((K6.wrap (y4 * 16777216)) + (K6.wrap (y5 * 65536)))) + (K6.wrap (y6 * 256)))) + y7)) n))] <| cJ [4] [(4,aI (Int.tmod (K6.wrap ((K6.wrap ((K6.wrap ((K6.wrap (y4 * 16777216)) + (K6.wrap (y5 * 65536)))) + (K6.wrap (y6 * 256)))) + y7)) n))] [(4,aI (Int.tmod ((((y4 * 16777216) + (y5 * 65536)) + (y6 * 256)) + y7) n))] (by rw [show (K6.wrap (y6 * 256)) = (y6 * 256) from al (by omega) (by omega),show (K6.wrap (y5 * 65536)) = (y5 * 65536) from al (by omega) (by omega),show (K6.wrap (y4 * 16777216)) = (y4 * 16777216) from al (by omega) (by omega),show (K6.wrap ((y4 * 16777216) + (y5 * 65536))) = ((y4 * 16777216) + (y5 * 65536)) from al (by omega) (by omega),show (K6.wrap (((y4 * 16777216) + (y5 * 65536)) + (y6 * 256))) = (((y4 * 16777216) + (y5 * 65536)) + (y6 * 256)) from al (by omega) (by omega),show (K6.wrap ((((y4 * 16777216) + (y5 * 65536)) + (y6 * 256)) + y7)) = ((((y4 * 16777216) + (y5 * 65536)) + (y6 * 256)) + y7) from al (by omega) (by omega)]) (by kernel_rfl) ?_
 refine aU [4] [] <| kR ?_
 exact ⟨[iI (Int.tmod ((((y4 * 16777216) + (y5 * 65536)) + (y6 * 256)) + y7) n)],by kernel_rfl,fun w' hb hf => ⟨⟨Int.tmod ((((y4 * 16777216) + (y5 * 65536)) + (y6 * 256)) + y7) n,(by first | (exact ⟨by omega,fun _ => by omega⟩) | (exact tmod_bd (by omega) (by omega)))⟩,rfl,hf (cF B g A J cap) (by simp),ar (hf (bd w (fun b => b = g)) (by simp)) hb rfl rfl rfl⟩⟩
theorem av {g : Nat} {J : List Int} {A : Option Addr} {cap : Nat} {n : Int} {w0 : World} {fs : List Fact} {B : Nat} (hB : B ≤ w0.heap.size) (hap : ¬ (sQ A J cap).blk g)  (hn : J.length ≤ 1048576 := by omega) (h1 : cF B g A J cap ∈ fs := by simp) (h2 : sQ A J cap ∈ fs := by simp) : XCM Try.prog w0 fs (cF B g A J cap).blk 16 [gP g, iI n] (α := {y : Int // 0 ≤ y ∧ (0 < n → y < n)}) (fun y => iI y.1) (fun _ => [cF B g A J cap]) := cE fun w hw hf => l1Below_c g J A cap n w B (Nat.le_trans hB hw) (hf _ h1) (hf _ h2) hap hn  
theorem l1Once_c (g : Nat) (J : List Int) (A : Option Addr) (cap : Nat) (n : Int) (w : World) (B : Nat) (hB : B ≤ w.heap.size) (hc : (cF B g A J cap).p w) (hl : Sl w (sJ A J cap) 1 (J.map bR)) (hap : ¬ (sQ A J cap).blk g) (hn : J.length ≤ 1048576)  : Calls Try.prog 26 #[gP g, iI n] w fun e w' => ∃ y : {y : Bool // True}, e = .returned (.bool y.1) ∧ (cF B g A J cap).p w' ∧ Chgd (fun b => b = g) w w' := by
 have hq_code := Sl.capLe hl
 have hBw : B ≤ (aw w B).heap.size := Nat.le_of_eq (aW hB).symm
 have hlo : ∀ (ww : World) (b : Nat),(cF B g A J cap).p ww → (cF B g A J cap).blk b → (aw w B).heap.size ≤ b := fun ww b h hb => Nat.le_trans (bC w B) (cQ h hb)
 refine ci (args := [gP g,iI n]) (fn := Try.f26) [cF B g A J cap,sQ A J cap,bd w (fun b => b = g)] B Try.func26 rfl Try.ntmps26 rfl hB (by simp only [List.mem_cons,List.not_mem_nil,or_false,forall_eq_or_imp,forall_eq]; exact ⟨hc,hl,bn w _⟩) (bX hap rfl) ?_
 refine kQ <| cv [0,1] ⟨[(0,aP g),(1,aI n)],[],[],[cF B g A J cap,sQ A J cap,bd w (fun b => b = g)]⟩ <| kQ <| kWS 2 [5,6] [(5,aP g),(6,aI n)] 16 [gP g,iI n] (some 7) 0 rfl rfl hlo (av hBw hap) ?_
 rintro ⟨y1,hy1⟩
 obtain ⟨hy10,hy11⟩ := hy1
 refine aD [4] [(4,aB (y1 == 0))] <| kR ?_
 exact ⟨[.bool (y1 == 0)],by kernel_rfl,fun w' hb hf => ⟨⟨y1 == 0,trivial⟩,rfl,hf (cF B g A J cap) (by simp),ar (hf (bd w (fun b => b = g)) (by simp)) hb rfl rfl rfl⟩⟩
theorem bo {g : Nat} {J : List Int} {A : Option Addr} {cap : Nat} {n : Int} {w0 : World} {fs : List Fact} {B : Nat} (hB : B ≤ w0.heap.size) (hap : ¬ (sQ A J cap).blk g)  (hn : J.length ≤ 1048576 := by omega) (h1 : cF B g A J cap ∈ fs := by simp) (h2 : sQ A J cap ∈ fs := by simp) : XCM Try.prog w0 fs (cF B g A J cap).blk 26 [gP g, iI n] (α := {y : Bool // True}) (fun y => .bool y.1) (fun _ => [cF B g A J cap]) := cE fun w hw hf => l1Once_c g J A cap n w B (Nat.le_trans hB hw) (hf _ h1) (hf _ h2) hap hn  
theorem l1PickInt_c (g : Nat) (J : List Int) (A : Option Addr) (cap : Nat) (list : List Int) (listV : Value) (w : World) (B : Nat) (hB : B ≤ w.heap.size) (hc : (cF B g A J cap).p w) (hl : Sl w (sJ A J cap) 1 (J.map bR)) (hap : ¬ (sQ A J cap).blk g) (hn : J.length ≤ 1048576) (hl_listV : Sl w listV 1 (list.map az)) (hap2 : ¬ (bz listV 1 (list.map az)).blk g) (hne : 0 < list.length) : Calls Try.prog 19 #[gP g, listV] w fun e w' => ∃ y : {y : Int // y ∈ list}, e = .returned (iI y.1) ∧ (cF B g A J cap).p w' ∧ Chgd (fun b => b = g) w w' := by
 have hq_code := Sl.capLe hl
 have hBw : B ≤ (aw w B).heap.size := Nat.le_of_eq (aW hB).symm
 have hlo : ∀ (ww : World) (b : Nat),(cF B g A J cap).p ww → (cF B g A J cap).blk b → (aw w B).heap.size ≤ b := fun ww b h hb => Nat.le_trans (bC w B) (cQ h hb)
 obtain ⟨Al,Cl,hvl⟩ := hl_listV.form
 rw [List.length_map] at hvl; subst hvl
 have hnl := hl_listV.len; rw [List.length_map] at hnl
 have hql := Sl.capLe hl_listV
 refine ci (args := [gP g,.slice Al list.length Cl]) (fn := Try.f19) [cF B g A J cap,sQ A J cap,bd w (fun b => b = g),bz (.slice Al list.length Cl) 1 (list.map az)] B Try.func19 rfl Try.ntmps19 rfl hB (by simp only [List.mem_cons,List.not_mem_nil,or_false,forall_eq_or_imp,forall_eq]; exact ⟨hc,hl,bn w _,hl_listV⟩) (apart_cur2 hap rfl hap2 rfl) ?_
 refine kQ <| cv [0,1] ⟨[(0,aP g),(1,.v (.slice Al list.length Cl))],[],[],[cF B g A J cap,sQ A J cap,bd w (fun b => b = g),bz (.slice Al list.length Cl) 1 (list.map az)]⟩ <| kQ <| kWS 4 [5,6,8] [(5,.v (.slice Al list.length Cl)),(6,aP g),(8,aI ((list.length : Nat) : Int))] 16 [gP g,iI ((list.length : Nat) : Int)] (some 9) 0 rfl rfl hlo (av hBw hap) ?_
 rintro ⟨y1,hy1⟩
 obtain ⟨hy10,hy11⟩ := hy1
 obtain ⟨j2,hj2⟩ : ∃ j : Nat,y1 = (j : Int) := ⟨y1.toNat,by omega⟩
 subst hj2
 have hlt : j2 < list.length := by omega
 obtain ⟨z,hz⟩ : ∃ z,list[j2]? = some z := ⟨_,List.getElem?_eq_getElem hlt⟩
 refine fe (kd := .i64) (T := 57) (e := 3) (K := 1) 0 [5,9] [] j2 [iI z] (bz (.slice Al list.length Cl) 1 (list.map az)) (by kernel_rfl) rfl (by kernel_rfl) rfl rfl (by kernel_rfl) (by kernel_rfl) (by kernel_rfl) (by kernel_rfl) hlt (by simp) (fun w h => h) (fun b h => h) (by simp only [List.getElem?_map,hz]; rfl) ?_
 refine aD [4] [(4,aI z)] <| kR ?_
 exact ⟨[iI z],by kernel_rfl,fun w' hb hf => ⟨⟨z,List.mem_of_getElem? hz⟩,rfl,hf (cF B g A J cap) (by simp),ar (hf (bd w (fun b => b = g)) (by simp)) hb rfl rfl rfl⟩⟩
theorem aL {g : Nat} {J : List Int} {A : Option Addr} {cap : Nat} {list : List Int} {listV : Value} {w0 : World} {fs : List Fact} {B : Nat} (hB : B ≤ w0.heap.size) (hap : ¬ (sQ A J cap).blk g) (hs0 : ∀ w : World, w0.heap.size ≤ w.heap.size → (∀ f ∈ fs, f.p w) → Sl w listV 1 (list.map az)) (hq0 : ¬ (bz listV 1 (list.map az)).blk g) (hne : 0 < list.length) (hn : J.length ≤ 1048576 := by omega) (h1 : cF B g A J cap ∈ fs := by simp) (h2 : sQ A J cap ∈ fs := by simp) : XCM Try.prog w0 fs (cF B g A J cap).blk 19 [gP g, listV] (α := {y : Int // y ∈ list}) (fun y => iI y.1) (fun _ => [cF B g A J cap]) := cE fun w hw hf => l1PickInt_c g J A cap list listV w B (Nat.le_trans hB hw) (hf _ h1) (hf _ h2) hap hn (hs0 w hw hf) hq0 hne
theorem l1Whole_c (g : Nat) (J : List Int) (A : Option Addr) (cap : Nat)  (w : World) (B : Nat) (hB : B ≤ w.heap.size) (hc : (cF B g A J cap).p w) (hl : Sl w (sJ A J cap) 1 (J.map bR)) (hap : ¬ (sQ A J cap).blk g) (hn : J.length ≤ 1048576)  : Calls Try.prog 81 #[gP g] w fun e w' => ∃ y : {y : Int // True}, e = .returned (iI y.1) ∧ (cF B g A J cap).p w' ∧ Chgd (fun b => b = g) w w' := by
 have hq_code := Sl.capLe hl
 have hBw : B ≤ (aw w B).heap.size := Nat.le_of_eq (aW hB).symm
 have hlo : ∀ (ww : World) (b : Nat),(cF B g A J cap).p ww → (cF B g A J cap).blk b → (aw w B).heap.size ≤ b := fun ww b h hb => Nat.le_trans (bC w B) (cQ h hb)
 refine ci (args := [gP g]) (fn := Try.f81) [cF B g A J cap,sQ A J cap,bd w (fun b => b = g)] B Try.func81 rfl Try.ntmps81 rfl hB (by simp only [List.mem_cons,List.not_mem_nil,or_false,forall_eq_or_imp,forall_eq]; exact ⟨hc,hl,bn w _⟩) (bX hap rfl) ?_
 refine kQ <| cv [0] ⟨[(0,aP g)],[],[],[cF B g A J cap,sQ A J cap,bd w (fun b => b = g)]⟩ <| kS <| kQ <| d2 1 [0,3] [(3,aP g)] 16 [gP g,iI 3] (some 4) 0 rfl rfl hlo (av hBw hap) ?_
 rintro ⟨y1,hy1⟩
 obtain ⟨hy10,hy11⟩ := hy1
 refine aU [0,4] [] <| aj <| kQ <| aU [0,4,5] [(5,aB (y1 == 0))] ?_
 refine kC (y1 == 0) (fun h2 => ?_) (fun h2 => ?_)
 have h2p := cN h2
 refine kQ <| kHS 1 [7] [(7,aP g)] rfl (aQ (e := 3) (K := 1) (bytes := 8) [iI 0,iI 1,iI (-1),iI 9,iI 10,iI 999999999999,iI 1000000000000,iI 9223372036854775807,iI 4294967295,iI 4294967296,iI 65535,iI 65536,iI (-9223372036854775808)] (rs := ([0,1,(-1),9,10,999999999999,1000000000000,9223372036854775807,4294967295,4294967296,65535,65536,(-9223372036854775808)] : List Int).map az) rfl rfl) ?_
 intro g3
 refine dj (φ := ¬ (bz (.slice (some ⟨g3,0,none⟩) 13 13) 1 (([0,1,(-1),9,10,999999999999,1000000000000,9223372036854775807,4294967295,4294967296,65535,65536,(-9223372036854775808)] : List Int).map az)).blk g) (fun _ _ _ _ hr => fun hb => hr.2.apart 0 1 (a9 (aw w B).heap.size 3 1 (.slice (some ⟨g3,0,none⟩) 13 13) (([0,1,(-1),9,10,999999999999,1000000000000,9223372036854775807,4294967295,4294967296,65535,65536,(-9223372036854775808)] : List Int).map az)) (cF B g A J cap) rfl rfl (by decide) rfl g (bf hb) rfl) (fun hk4 => ?_)
 refine d2 0 [7,8] [] 19 [gP g,.slice (some ⟨g3,0,none⟩) 13 13] (some 9) 1 rfl rfl hlo (aL hBw hap (fun ww hw hf => (au (hf _ m0))) hk4 (by simp)) ?_
 rintro ⟨y5,hy5⟩
 refine aD [2] [(2,aI y5)] <| kR ?_
 exact ⟨[iI y5],by kernel_rfl,fun w' hb hf => ⟨⟨y5,trivial⟩,rfl,hf (cF B g A J cap) (by simp),ar (hf (bd w (fun b => b = g)) (by simp)) hb rfl rfl rfl⟩⟩
 have h2p := cI h2
 refine kQ <| aU [0,10] [(10,aB (y1 == 1))] <| kC (y1 == 1) (fun h6 => ?_) (fun h6 => ?_)
 have h6p := cN h6
 refine kQ <| kWS 1 [12] [(12,aP g)] 16 [gP g,iI 1000000] (some 13) 0 rfl rfl hlo (av hBw hap) ?_
 rintro ⟨y7,hy7⟩
 obtain ⟨hy70,hy71⟩ := hy7
 refine eo 2 [2] [(2,aI (K6.wrap (y7 - 500000)))] <| cJ [2] [(2,aI (K6.wrap (y7 - 500000)))] [(2,aI (y7 - 500000))] (by rw [show (K6.wrap (y7 - 500000)) = (y7 - 500000) from al (by omega) (by omega)]) (by kernel_rfl) ?_
 refine aU [2] [] <| kR ?_
 exact ⟨[iI (y7 - 500000)],by kernel_rfl,fun w' hb hf => ⟨⟨y7 - 500000,trivial⟩,rfl,hf (cF B g A J cap) (by simp),ar (hf (bd w (fun b => b = g)) (by simp)) hb rfl rfl rfl⟩⟩
 have h6p := cI h6
 refine kK <| kQ <| kWS 1 [15] [(15,aP g)] 16 [gP g,iI 20] (some 16) 0 rfl rfl hlo (av hBw hap) ?_
 rintro ⟨y8,hy8⟩
 obtain ⟨hy80,hy81⟩ := hy8
 refine aD [2] [(2,aI y8)] <| kR ?_
 exact ⟨[iI y8],by kernel_rfl,fun w' hb hf => ⟨⟨y8,trivial⟩,rfl,hf (cF B g A J cap) (by simp),ar (hf (bd w (fun b => b = g)) (by simp)) hb rfl rfl rfl⟩⟩
theorem l1Whole_c_K {g : Nat} {J : List Int} {A : Option Addr} {cap : Nat}  {w0 : World} {fs : List Fact} {B : Nat} (hB : B ≤ w0.heap.size) (hap : ¬ (sQ A J cap).blk g)  (hn : J.length ≤ 1048576 := by omega) (h1 : cF B g A J cap ∈ fs := by simp) (h2 : sQ A J cap ∈ fs := by simp) : XCM Try.prog w0 fs (cF B g A J cap).blk 81 [gP g] (α := {y : Int // True}) (fun y => iI y.1) (fun _ => [cF B g A J cap]) := cE fun w hw hf => l1Whole_c g J A cap  w B (Nat.le_trans hB hw) (hf _ h1) (hf _ h2) hap hn  
theorem l2Word_c (g : Nat) (J : List Int) (A : Option Addr) (cap : Nat)  (w : World) (B : Nat) (hB : B ≤ w.heap.size) (hc : (cF B g A J cap).p w) (hl : Sl w (sJ A J cap) 1 (J.map bR)) (hap : ¬ (sQ A J cap).blk g) (hn : J.length ≤ 1048576)  : Calls Try.prog 47 #[gP g] w fun e w' => ∃ y : {y : Int // True}, e = .returned (iI y.1) ∧ (cF B g A J cap).p w' ∧ Chgd (fun b => b = g) w w' := by
 have hq_code := Sl.capLe hl
 have hBw : B ≤ (aw w B).heap.size := Nat.le_of_eq (aW hB).symm
 have hlo : ∀ (ww : World) (b : Nat),(cF B g A J cap).p ww → (cF B g A J cap).blk b → (aw w B).heap.size ≤ b := fun ww b h hb => Nat.le_trans (bC w B) (cQ h hb)
 refine ci (args := [gP g]) (fn := Try.f47) [cF B g A J cap,sQ A J cap,bd w (fun b => b = g)] B Try.func47 rfl Try.ntmps47 rfl hB (by simp only [List.mem_cons,List.not_mem_nil,or_false,forall_eq_or_imp,forall_eq]; exact ⟨hc,hl,bn w _⟩) (bX hap rfl) ?_
 refine kQ <| cv [0] ⟨[(0,aP g)],[],[],[cF B g A J cap,sQ A J cap,bd w (fun b => b = g)]⟩ <| kS <| kQ <| d2 1 [0,3] [(3,aP g)] 16 [gP g,iI 3] (some 4) 0 rfl rfl hlo (av hBw hap) ?_
 rintro ⟨y1,hy1⟩
 obtain ⟨hy10,hy11⟩ := hy1
 refine aU [0,4] [] <| aj <| kQ <| aU [0,4,5] [(5,aB (y1 == 0))] ?_
 refine kC (y1 == 0) (fun h2 => ?_) (fun h2 => ?_)
 have h2p := cN h2
 refine kQ <| kWS 1 [7] [(7,aP g)] 81 [gP g] (some 8) 0 rfl rfl hlo (l1Whole_c_K hBw hap) ?_
 rintro ⟨y3,hy3⟩
 refine aD [2] [(2,aI y3)] <| kR ?_
 exact ⟨[iI y3],by kernel_rfl,fun w' hb hf => ⟨⟨y3,trivial⟩,rfl,hf (cF B g A J cap) (by simp),ar (hf (bd w (fun b => b = g)) (by simp)) hb rfl rfl rfl⟩⟩
 have h2p := cI h2
 refine kQ <| aU [0,9] [(9,aB (y1 == 1))] <| kC (y1 == 1) (fun h4 => ?_) (fun h4 => ?_)
 have h4p := cN h4
 refine kQ <| kHS 1 [11] [(11,aP g)] rfl (aQ (e := 3) (K := 1) (bytes := 8) [iI 0,iI 1,iI 255,iI 256,iI 65535,iI 65536,iI 16777215,iI 4294967295,iI 4294967296,iI 281474976710655,iI 281474976710656] (rs := ([0,1,255,256,65535,65536,16777215,4294967295,4294967296,281474976710655,281474976710656] : List Int).map az) rfl rfl) ?_
 intro g5
 refine dj (φ := ¬ (bz (.slice (some ⟨g5,0,none⟩) 11 11) 1 (([0,1,255,256,65535,65536,16777215,4294967295,4294967296,281474976710655,281474976710656] : List Int).map az)).blk g) (fun _ _ _ _ hr => fun hb => hr.2.apart 0 1 (a9 (aw w B).heap.size 3 1 (.slice (some ⟨g5,0,none⟩) 11 11) (([0,1,255,256,65535,65536,16777215,4294967295,4294967296,281474976710655,281474976710656] : List Int).map az)) (cF B g A J cap) rfl rfl (by decide) rfl g (bf hb) rfl) (fun hk6 => ?_)
 refine d2 0 [11,12] [] 19 [gP g,.slice (some ⟨g5,0,none⟩) 11 11] (some 13) 1 rfl rfl hlo (aL hBw hap (fun ww hw hf => (au (hf _ m0))) hk6 (by simp)) ?_
 rintro ⟨y7,hy7⟩
 refine aD [2] [(2,aI y7)] <| kR ?_
 exact ⟨[iI y7],by kernel_rfl,fun w' hb hf => ⟨⟨y7,trivial⟩,rfl,hf (cF B g A J cap) (by simp),ar (hf (bd w (fun b => b = g)) (by simp)) hb rfl rfl rfl⟩⟩
 have h4p := cI h4
 refine kK <| kQ <| kWS 1 [14] [(14,aP g)] 16 [gP g,iI 65536] (some 15) 0 rfl rfl hlo (av hBw hap) ?_
 rintro ⟨y8,hy8⟩
 obtain ⟨hy80,hy81⟩ := hy8
 refine aD [2] [(2,aI y8)] <| kR ?_
 exact ⟨[iI y8],by kernel_rfl,fun w' hb hf => ⟨⟨y8,trivial⟩,rfl,hf (cF B g A J cap) (by simp),ar (hf (bd w (fun b => b = g)) (by simp)) hb rfl rfl rfl⟩⟩
theorem eZ {g : Nat} {J : List Int} {A : Option Addr} {cap : Nat}  {w0 : World} {fs : List Fact} {B : Nat} (hB : B ≤ w0.heap.size) (hap : ¬ (sQ A J cap).blk g)  (hn : J.length ≤ 1048576 := by omega) (h1 : cF B g A J cap ∈ fs := by simp) (h2 : sQ A J cap ∈ fs := by simp) : XCM Try.prog w0 fs (cF B g A J cap).blk 47 [gP g] (α := {y : Int // True}) (fun y => iI y.1) (fun _ => [cF B g A J cap]) := cE fun w hw hf => l2Word_c g J A cap  w B (Nat.le_trans hB hw) (hf _ h1) (hf _ h2) hap hn  
theorem l2Deep_c (g : Nat) (J : List Int) (A : Option Addr) (cap : Nat)  (w : World) (B : Nat) (hB : B ≤ w.heap.size) (hc : (cF B g A J cap).p w) (hl : Sl w (sJ A J cap) 1 (J.map bR)) (hap : ¬ (sQ A J cap).blk g) (hn : J.length ≤ 1048576)  : Calls Try.prog 36 #[gP g] w fun e w' => ∃ y : {y : Int // True}, e = .returned (iI y.1) ∧ (cF B g A J cap).p w' ∧ Chgd (fun b => b = g) w w' := by
 have hq_code := Sl.capLe hl
 have hBw : B ≤ (aw w B).heap.size := Nat.le_of_eq (aW hB).symm
 have hlo : ∀ (ww : World) (b : Nat),(cF B g A J cap).p ww → (cF B g A J cap).blk b → (aw w B).heap.size ≤ b := fun ww b h hb => Nat.le_trans (bC w B) (cQ h hb)
 refine ci (args := [gP g]) (fn := Try.f36) [cF B g A J cap,sQ A J cap,bd w (fun b => b = g)] B Try.func36 rfl Try.ntmps36 rfl hB (by simp only [List.mem_cons,List.not_mem_nil,or_false,forall_eq_or_imp,forall_eq]; exact ⟨hc,hl,bn w _⟩) (bX hap rfl) ?_
 refine kQ <| cv [0] ⟨[(0,aP g)],[],[],[cF B g A J cap,sQ A J cap,bd w (fun b => b = g)]⟩ <| kS <| kQ <| d2 1 [0,5] [(5,aP g)] 26 [gP g,iI 3] (some 6) 0 rfl rfl hlo (bo hBw hap) ?_
 rintro ⟨y1,hy1⟩
 refine aU [0,6] [] <| kC (y1) (fun h2 => ?_) (fun h2 => ?_)
 refine kQ <| kHS 1 [7] [(7,aP g)] rfl (aQ (e := 3) (K := 1) (bytes := 8) [iI 0,iI 1,iI 4294967295,iI 2147483647,iI 2147483648,iI 4294967294] (rs := ([0,1,4294967295,2147483647,2147483648,4294967294] : List Int).map az) rfl rfl) ?_
 intro g3
 refine dj (φ := ¬ (bz (.slice (some ⟨g3,0,none⟩) 6 6) 1 (([0,1,4294967295,2147483647,2147483648,4294967294] : List Int).map az)).blk g) (fun _ _ _ _ hr => fun hb => hr.2.apart 0 1 (a9 (aw w B).heap.size 3 1 (.slice (some ⟨g3,0,none⟩) 6 6) (([0,1,4294967295,2147483647,2147483648,4294967294] : List Int).map az)) (cF B g A J cap) rfl rfl (by decide) rfl g (bf hb) rfl) (fun hk4 => ?_)
 refine d2 0 [7,8] [] 19 [gP g,.slice (some ⟨g3,0,none⟩) 6 6] (some 9) 1 rfl rfl hlo (aL hBw hap (fun ww hw hf => (au (hf _ m0))) hk4 (by simp)) ?_
 rintro ⟨y5,hy5⟩
 refine aD [2] [(2,aI y5)] <| kR ?_
 exact ⟨[iI y5],by kernel_rfl,fun w' hb hf => ⟨⟨y5,trivial⟩,rfl,hf (cF B g A J cap) (by simp),ar (hf (bd w (fun b => b = g)) (by simp)) hb rfl rfl rfl⟩⟩
 refine kK <| kQ <| aU [0,3] [(3,aI 0)] <| kS <| kQ <| aU [0,3,4] [(4,aI 0)] ?_
 refine aj <| bI (α := {x : Nat × Int // (fun (i : Nat) (x : Int) => i ≤ 4) x.1 x.2}) (fun x => (fun (i : Nat) (x : Int) => (⟨[(0,aP g),(3,aI x),(4,aI (i : Int))],[],[],[cF B g A J cap,sQ A J cap,bd w (fun b => b = g)]⟩ : St)) x.1.1 x.1.2) (fun x => (fun (i : Nat) (x : Int) => 4 - i) x.1.1 x.1.2) ⟨(0,0),Nat.zero_le _⟩ (kF 0 0 [0,3,4]) ?_
 rintro ⟨⟨i,x⟩,hi⟩
 try dsimp only
 try dsimp only at hi
 refine kS <| kQ <| aU [0,3,4,11] [(11,aB (decide ((i : Int) < 4)))] <| kC (decide ((i : Int) < 4)) (fun h6 => ?_) (fun h6 => ?_)
 have h6p := of_decide_eq_true h6
 have hlt : i < 4 := by simp at h6; omega
 refine kK <| kS <| aj <| kG <| d2 3 [0,3,4,15,16] [(15,aI (K6.wrap (256 * x))),(16,aP g)] 27 [gP g] (some 17) 0 rfl rfl hlo (ec hBw hap) ?_
 rintro ⟨y7,hy7⟩
 refine aU [0,3,4] [(3,aI (K6.wrap ((K6.wrap (256 * x)) + y7)))] <| kG <| dK 3 [0,3,4] [(4,aI (K6.wrap ((i : Int) + 1)))] <| cJ [0,3,4] [(4,aI (K6.wrap ((i : Int) + 1)))] [(4,aI ((i : Int) + 1))] (by rw [show (K6.wrap ((i : Int) + 1)) = ((i : Int) + 1) from al (by omega) (by omega)]) (by kernel_rfl) ?_
 refine aU [0,3,4] [] ?_
 exact ⟨⟨(i + 1,K6.wrap ((K6.wrap (256 * x)) + y7)),hlt⟩,kF 0 0 [0,3,4],by show (fun (i : Nat) (x : Int) => 4 - i) (i + 1) (K6.wrap ((K6.wrap (256 * x)) + y7)) < 4 - i; (dsimp only; omega)⟩
 have h6p := of_decide_eq_false h6
 refine c5 <| kQ <| aD [2] [(2,aI x)] <| kR ?_
 exact ⟨[iI x],by kernel_rfl,fun w' hb hf => ⟨⟨x,trivial⟩,rfl,hf (cF B g A J cap) (by simp),ar (hf (bd w (fun b => b = g)) (by simp)) hb rfl rfl rfl⟩⟩
theorem cM {g : Nat} {J : List Int} {A : Option Addr} {cap : Nat}  {w0 : World} {fs : List Fact} {B : Nat} (hB : B ≤ w0.heap.size) (hap : ¬ (sQ A J cap).blk g)  (hn : J.length ≤ 1048576 := by omega) (h1 : cF B g A J cap ∈ fs := by simp) (h2 : sQ A J cap ∈ fs := by simp) : XCM Try.prog w0 fs (cF B g A J cap).blk 36 [gP g] (α := {y : Int // True}) (fun y => iI y.1) (fun _ => [cF B g A J cap]) := cE fun w hw hf => l2Deep_c g J A cap  w B (Nat.le_trans hB hw) (hf _ h1) (hf _ h2) hap hn  
theorem l4Place_c (g : Nat) (J : List Int) (A : Option Addr) (cap : Nat)  (w : World) (B : Nat) (hB : B ≤ w.heap.size) (hc : (cF B g A J cap).p w) (hl : Sl w (sJ A J cap) 1 (J.map bR)) (hap : ¬ (sQ A J cap).blk g) (hn : J.length ≤ 1048576)  : Calls Try.prog 97 #[gP g] w fun e w' => ∃ y : {y : Int // True}, e = .returned (iI y.1) ∧ (cF B g A J cap).p w' ∧ Chgd (fun b => b = g) w w' := by
 have hq_code := Sl.capLe hl
 have hBw : B ≤ (aw w B).heap.size := Nat.le_of_eq (aW hB).symm
 have hlo : ∀ (ww : World) (b : Nat),(cF B g A J cap).p ww → (cF B g A J cap).blk b → (aw w B).heap.size ≤ b := fun ww b h hb => Nat.le_trans (bC w B) (cQ h hb)
 refine ci (args := [gP g]) (fn := Try.f97) [cF B g A J cap,sQ A J cap,bd w (fun b => b = g)] B Try.func97 rfl Try.ntmps97 rfl hB (by simp only [List.mem_cons,List.not_mem_nil,or_false,forall_eq_or_imp,forall_eq]; exact ⟨hc,hl,bn w _⟩) (bX hap rfl) ?_
 refine kQ <| cv [0] ⟨[(0,aP g)],[],[],[cF B g A J cap,sQ A J cap,bd w (fun b => b = g)]⟩ <| kS <| kQ <| d2 1 [0,3] [(3,aP g)] 26 [gP g,iI 12] (some 4) 0 rfl rfl hlo (bo hBw hap) ?_
 rintro ⟨y1,hy1⟩
 refine aU [0,4] [] <| kC (y1) (fun h2 => ?_) (fun h2 => ?_)
 refine kQ <| kWS 1 [5] [(5,aP g)] 81 [gP g] (some 6) 0 rfl rfl hlo (l1Whole_c_K hBw hap) ?_
 rintro ⟨y3,hy3⟩
 refine aD [2] [(2,aI y3)] <| kR ?_
 exact ⟨[iI y3],by kernel_rfl,fun w' hb hf => ⟨⟨y3,trivial⟩,rfl,hf (cF B g A J cap) (by simp),ar (hf (bd w (fun b => b = g)) (by simp)) hb rfl rfl rfl⟩⟩
 refine kK <| kQ <| kWS 1 [7] [(7,aP g)] 36 [gP g] (some 8) 0 rfl rfl hlo (cM hBw hap) ?_
 rintro ⟨y4,hy4⟩
 refine aD [2] [(2,aI y4)] <| kR ?_
 exact ⟨[iI y4],by kernel_rfl,fun w' hb hf => ⟨⟨y4,trivial⟩,rfl,hf (cF B g A J cap) (by simp),ar (hf (bd w (fun b => b = g)) (by simp)) hb rfl rfl rfl⟩⟩
theorem l4Place_c_K {g : Nat} {J : List Int} {A : Option Addr} {cap : Nat}  {w0 : World} {fs : List Fact} {B : Nat} (hB : B ≤ w0.heap.size) (hap : ¬ (sQ A J cap).blk g)  (hn : J.length ≤ 1048576 := by omega) (h1 : cF B g A J cap ∈ fs := by simp) (h2 : sQ A J cap ∈ fs := by simp) : XCM Try.prog w0 fs (cF B g A J cap).blk 97 [gP g] (α := {y : Int // True}) (fun y => iI y.1) (fun _ => [cF B g A J cap]) := cE fun w hw hf => l4Place_c g J A cap  w B (Nat.le_trans hB hw) (hf _ h1) (hf _ h2) hap hn  
theorem l6Ip_c (g : Nat) (J : List Int) (A : Option Addr) (cap : Nat)  (w : World) (B : Nat) (hB : B ≤ w.heap.size) (hc : (cF B g A J cap).p w) (hl : Sl w (sJ A J cap) 1 (J.map bR)) (hap : ¬ (sQ A J cap).blk g) (hn : J.length ≤ 1048576)  : Calls Try.prog 32 #[gP g] w fun e w' => ∃ y : {y : Int // True}, e = .returned (iI y.1) ∧ (cF B g A J cap).p w' ∧ Chgd (fun b => b = g) w w' := by
 have hq_code := Sl.capLe hl
 have hBw : B ≤ (aw w B).heap.size := Nat.le_of_eq (aW hB).symm
 have hlo : ∀ (ww : World) (b : Nat),(cF B g A J cap).p ww → (cF B g A J cap).blk b → (aw w B).heap.size ≤ b := fun ww b h hb => Nat.le_trans (bC w B) (cQ h hb)
 refine ci (args := [gP g]) (fn := Try.f32) [cF B g A J cap,sQ A J cap,bd w (fun b => b = g)] B Try.func32 rfl Try.ntmps32 rfl hB (by simp only [List.mem_cons,List.not_mem_nil,or_false,forall_eq_or_imp,forall_eq]; exact ⟨hc,hl,bn w _⟩) (bX hap rfl) ?_
 refine kQ <| cv [0] ⟨[(0,aP g)],[],[],[cF B g A J cap,sQ A J cap,bd w (fun b => b = g)]⟩ <| kQ <| kHS 1 [3] [(3,aP g)] rfl (aQ (e := 3) (K := 1) (bytes := 8) [iI 167772161,iI 167772162,iI 167772163,iI 0,iI 4294967295] (rs := ([167772161,167772162,167772163,0,4294967295] : List Int).map az) rfl rfl) ?_
 intro g1
 refine dj (φ := ¬ (bz (.slice (some ⟨g1,0,none⟩) 5 5) 1 (([167772161,167772162,167772163,0,4294967295] : List Int).map az)).blk g) (fun _ _ _ _ hr => fun hb => hr.2.apart 0 1 (a9 (aw w B).heap.size 3 1 (.slice (some ⟨g1,0,none⟩) 5 5) (([167772161,167772162,167772163,0,4294967295] : List Int).map az)) (cF B g A J cap) rfl rfl (by decide) rfl g (bf hb) rfl) (fun hk2 => ?_)
 refine d2 0 [3,4] [] 19 [gP g,.slice (some ⟨g1,0,none⟩) 5 5] (some 5) 1 rfl rfl hlo (aL hBw hap (fun ww hw hf => (au (hf _ m0))) hk2 (by simp)) ?_
 rintro ⟨y3,hy3⟩
 refine aD [2] [(2,aI y3)] <| kR ?_
 exact ⟨[iI y3],by kernel_rfl,fun w' hb hf => ⟨⟨y3,trivial⟩,rfl,hf (cF B g A J cap) (by simp),ar (hf (bd w (fun b => b = g)) (by simp)) hb rfl rfl rfl⟩⟩
theorem l6Ip_c_K {g : Nat} {J : List Int} {A : Option Addr} {cap : Nat}  {w0 : World} {fs : List Fact} {B : Nat} (hB : B ≤ w0.heap.size) (hap : ¬ (sQ A J cap).blk g)  (hn : J.length ≤ 1048576 := by omega) (h1 : cF B g A J cap ∈ fs := by simp) (h2 : sQ A J cap ∈ fs := by simp) : XCM Try.prog w0 fs (cF B g A J cap).blk 32 [gP g] (α := {y : Int // True}) (fun y => iI y.1) (fun _ => [cF B g A J cap]) := cE fun w hw hf => l6Ip_c g J A cap  w B (Nat.le_trans hB hw) (hf _ h1) (hf _ h2) hap hn  
theorem l8Options_c (g : Nat) (J : List Int) (A : Option Addr) (cap : Nat)  (w : World) (B : Nat) (hB : B ≤ w.heap.size) (hc : (cF B g A J cap).p w) (hl : Sl w (sJ A J cap) 1 (J.map bR)) (hap : ¬ (sQ A J cap).blk g) (hn : J.length ≤ 1048576)  : Calls Try.prog 37 #[gP g] w fun e w' => ∃ y : {y : Opt // True}, e = .returned (.agg (dI y.1).toArray) ∧ (cF B g A J cap).p w' ∧ Chgd (fun b => b = g) w w' := by
 have hq_code := Sl.capLe hl
 have hBw : B ≤ (aw w B).heap.size := Nat.le_of_eq (aW hB).symm
 have hlo : ∀ (ww : World) (b : Nat),(cF B g A J cap).p ww → (cF B g A J cap).blk b → (aw w B).heap.size ≤ b := fun ww b h hb => Nat.le_trans (bC w B) (cQ h hb)
 refine ci (args := [gP g]) (fn := Try.f37) [cF B g A J cap,sQ A J cap,bd w (fun b => b = g)] B Try.func37 rfl Try.ntmps37 rfl hB (by simp only [List.mem_cons,List.not_mem_nil,or_false,forall_eq_or_imp,forall_eq]; exact ⟨hc,hl,bn w _⟩) (bX hap rfl) ?_
 refine kQ <| cv [0,2] ⟨[(0,aP g),(2,.p 0 0)],[⟨48,[iI 0,iI 0,.bool false,.bool false,iI 0,iI 0]⟩],[],[cF B g A J cap,sQ A J cap,bd w (fun b => b = g)]⟩ <| kQ <| dZ 0 [0,2] [] 53 [] (some 4) rfl (br fun ww hf => eQ  ww ) ?_
 intro _
 refine kEA [0,2,3] [(3,.p 1 0)] [⟨48,[iI 0,iI (-1),.bool false,.bool false,iI 0,iI 0]⟩] <| kS <| kQ <| d2 1 [0,2,3,5] [(5,aP g)] 26 [gP g,iI 3] (some 6) 0 rfl rfl hlo (bo hBw hap) ?_
 rintro ⟨y1,hy1⟩
 refine aU [0,2,3,7] [(7,aB (!y1))] <| kC (!y1) (fun h2 => ?_) (fun h2 => ?_)
 have h2n := co h2
 refine kG <| kHD 1 [0,2,3,8] [(8,aP g)] rfl (aQ (e := 3) (K := 1) (bytes := 8) [iI 536,iI 1460,iI 1300,iI 64,iI 65535,iI 1] (rs := ([536,1460,1300,64,65535,1] : List Int).map az) rfl rfl) ?_
 intro g3
 refine dj (φ := ¬ (bz (.slice (some ⟨g3,0,none⟩) 6 6) 1 (([536,1460,1300,64,65535,1] : List Int).map az)).blk g) (fun _ _ _ _ hr => fun hb => hr.2.apart 0 1 (a9 (aw w B).heap.size 3 1 (.slice (some ⟨g3,0,none⟩) 6 6) (([536,1460,1300,64,65535,1] : List Int).map az)) (cF B g A J cap) rfl rfl (by decide) rfl g (bf hb) rfl) (fun hk4 => ?_)
 refine d2 0 [0,2,3,8,9] [] 19 [gP g,.slice (some ⟨g3,0,none⟩) 6 6] (some 10) 1 rfl rfl hlo (aL hBw hap (fun ww hw hf => (au (hf _ m0))) hk4 (by simp)) ?_
 rintro ⟨y5,hy5⟩
 refine ba [0,2,3] [] 1 ⟨48,[iI y5,iI (-1),.bool false,.bool false,iI 0,iI 0]⟩ <| kS <| kQ <| d2 1 [0,2,3,12] [(12,aP g)] 26 [gP g,iI 2] (some 13) 0 rfl rfl hlo (bo hBw hap) ?_
 rintro ⟨y6,hy6⟩
 refine aU [0,2,3,13] [] <| kC (y6) (fun h7 => ?_) (fun h7 => ?_)
 refine kG <| d2 1 [0,2,3,14] [(14,aP g)] 16 [gP g,iI 15] (some 15) 0 rfl rfl hlo (av hBw hap) ?_
 rintro ⟨y8,hy8⟩
 obtain ⟨hy80,hy81⟩ := hy8
 refine cv [0,2,3] ⟨[(0,aP g),(2,.p 0 0),(3,.p 1 0)],[⟨48,[iI 0,iI 0,.bool false,.bool false,iI 0,iI 0]⟩,⟨48,[iI y5,iI y8,.bool false,.bool false,iI 0,iI 0]⟩],[],[cF B g A J cap,a9 (aw w B).heap.size 3 1 (.slice (some ⟨g3,0,none⟩) 6 6) (([536,1460,1300,64,65535,1] : List Int).map az),sQ A J cap,bd w (fun b => b = g)]⟩ <| kQ <| d2 1 [0,2,3,17] [(17,aP g)] 26 [gP g,iI 2] (some 18) 0 rfl rfl hlo (bo hBw hap) ?_
 rintro ⟨y9,hy9⟩
 refine ba [0,2,3] [] 1 ⟨48,[iI y5,iI y8,.bool y9,.bool false,iI 0,iI 0]⟩ <| kS <| kQ <| d2 1 [0,2,3,20] [(20,aP g)] 26 [gP g,iI 2] (some 21) 0 rfl rfl hlo (bo hBw hap) ?_
 rintro ⟨y10,hy10⟩
 refine aU [0,2,3,21] [] <| kC (y10) (fun h11 => ?_) (fun h11 => ?_)
 refine kQ <| ba [0,2,3] [] 1 ⟨48,[iI y5,iI y8,.bool y9,.bool true,iI 0,iI 0]⟩ <| kQ <| d2 1 [0,2,3,23] [(23,aP g)] 36 [gP g] (some 24) 0 rfl rfl hlo (cM hBw hap) ?_
 rintro ⟨y12,hy12⟩
 refine ba [0,2,3] [] 1 ⟨48,[iI y5,iI y8,.bool y9,.bool true,iI y12,iI 0]⟩ <| kG <| d2 1 [2,3,26] [(26,aP g)] 36 [gP g] (some 27) 0 rfl rfl hlo (cM hBw hap) ?_
 rintro ⟨y13,hy13⟩
 refine ba [2,3] [] 1 ⟨48,[iI y5,iI y8,.bool y9,.bool true,iI y12,iI y13]⟩ <| kQ <| ba [2] [(2,.p 0 0)] 0 ⟨48,[iI y5,iI y8,.bool y9,.bool true,iI y12,iI y13]⟩ <| kR ?_
 exact ⟨[.agg #[iI y5,iI y8,.bool y9,.bool true,iI y12,iI y13]],by kernel_rfl,fun w' hb hf => ⟨⟨⟨y5,y8,y9,true,y12,y13⟩,trivial⟩,rfl,hf (cF B g A J cap) (by simp),ar (hf (bd w (fun b => b = g)) (by simp)) hb rfl rfl rfl⟩⟩
 refine kK <| kQ <| ba [2] [(2,.p 0 0)] 0 ⟨48,[iI y5,iI y8,.bool y9,.bool false,iI 0,iI 0]⟩ <| kR ?_
 exact ⟨[.agg #[iI y5,iI y8,.bool y9,.bool false,iI 0,iI 0]],by kernel_rfl,fun w' hb hf => ⟨⟨⟨y5,y8,y9,false,0,0⟩,trivial⟩,rfl,hf (cF B g A J cap) (by simp),ar (hf (bd w (fun b => b = g)) (by simp)) hb rfl rfl rfl⟩⟩
 refine kK <| kQ <| d2 1 [0,2,3,17] [(17,aP g)] 26 [gP g,iI 2] (some 18) 0 rfl rfl hlo (bo hBw hap) ?_
 rintro ⟨y14,hy14⟩
 refine cv [0,2,3] ⟨[(0,aP g),(2,.p 0 0),(3,.p 1 0)],[⟨48,[iI 0,iI 0,.bool false,.bool false,iI 0,iI 0]⟩,⟨48,[iI y5,iI (-1),.bool y14,.bool false,iI 0,iI 0]⟩],[],[cF B g A J cap,a9 (aw w B).heap.size 3 1 (.slice (some ⟨g3,0,none⟩) 6 6) (([536,1460,1300,64,65535,1] : List Int).map az),sQ A J cap,bd w (fun b => b = g)]⟩ <| kS <| kQ <| d2 1 [0,2,3,20] [(20,aP g)] 26 [gP g,iI 2] (some 21) 0 rfl rfl hlo (bo hBw hap) ?_
 rintro ⟨y15,hy15⟩
 refine aU [0,2,3,21] [] <| kC (y15) (fun h16 => ?_) (fun h16 => ?_)
 refine kQ <| ba [0,2,3] [] 1 ⟨48,[iI y5,iI (-1),.bool y14,.bool true,iI 0,iI 0]⟩ <| kQ <| d2 1 [0,2,3,23] [(23,aP g)] 36 [gP g] (some 24) 0 rfl rfl hlo (cM hBw hap) ?_
 rintro ⟨y17,hy17⟩
 refine ba [0,2,3] [] 1 ⟨48,[iI y5,iI (-1),.bool y14,.bool true,iI y17,iI 0]⟩ <| kG <| d2 1 [2,3,26] [(26,aP g)] 36 [gP g] (some 27) 0 rfl rfl hlo (cM hBw hap) ?_
 rintro ⟨y18,hy18⟩
 refine ba [2,3] [] 1 ⟨48,[iI y5,iI (-1),.bool y14,.bool true,iI y17,iI y18]⟩ <| kQ <| ba [2] [(2,.p 0 0)] 0 ⟨48,[iI y5,iI (-1),.bool y14,.bool true,iI y17,iI y18]⟩ <| kR ?_
 exact ⟨[.agg #[iI y5,iI (-1),.bool y14,.bool true,iI y17,iI y18]],by kernel_rfl,fun w' hb hf => ⟨⟨⟨y5,(-1),y14,true,y17,y18⟩,trivial⟩,rfl,hf (cF B g A J cap) (by simp),ar (hf (bd w (fun b => b = g)) (by simp)) hb rfl rfl rfl⟩⟩
 refine kK <| kQ <| ba [2] [(2,.p 0 0)] 0 ⟨48,[iI y5,iI (-1),.bool y14,.bool false,iI 0,iI 0]⟩ <| kR ?_
 exact ⟨[.agg #[iI y5,iI (-1),.bool y14,.bool false,iI 0,iI 0]],by kernel_rfl,fun w' hb hf => ⟨⟨⟨y5,(-1),y14,false,0,0⟩,trivial⟩,rfl,hf (cF B g A J cap) (by simp),ar (hf (bd w (fun b => b = g)) (by simp)) hb rfl rfl rfl⟩⟩
 have h2n := bj h2
 refine kK <| kS <| kQ <| d2 1 [0,2,3,12] [(12,aP g)] 26 [gP g,iI 2] (some 13) 0 rfl rfl hlo (bo hBw hap) ?_
 rintro ⟨y19,hy19⟩
 refine aU [0,2,3,13] [] <| kC (y19) (fun h20 => ?_) (fun h20 => ?_)
 refine kG <| d2 1 [0,2,3,14] [(14,aP g)] 16 [gP g,iI 15] (some 15) 0 rfl rfl hlo (av hBw hap) ?_
 rintro ⟨y21,hy21⟩
 obtain ⟨hy210,hy211⟩ := hy21
 refine ba [0,2,3] [] 1 ⟨48,[iI 0,iI y21,.bool false,.bool false,iI 0,iI 0]⟩ <| kQ <| d2 1 [0,2,3,17] [(17,aP g)] 26 [gP g,iI 2] (some 18) 0 rfl rfl hlo (bo hBw hap) ?_
 rintro ⟨y22,hy22⟩
 refine ba [0,2,3] [] 1 ⟨48,[iI 0,iI y21,.bool y22,.bool false,iI 0,iI 0]⟩ <| kS <| kQ <| kWS 1 [0,2,3,20] [(0,aP g),(2,.p 0 0),(3,.p 1 0),(20,aP g)] 26 [gP g,iI 2] (some 21) 0 rfl rfl hlo (bo hBw hap) ?_
 rintro ⟨y23,hy23⟩
 refine aU [0,2,3,21] [] <| kC (y23) (fun h24 => ?_) (fun h24 => ?_)
 refine kQ <| ba [0,2,3] [] 1 ⟨48,[iI 0,iI y21,.bool y22,.bool true,iI 0,iI 0]⟩ <| kQ <| d2 1 [0,2,3,23] [(23,aP g)] 36 [gP g] (some 24) 0 rfl rfl hlo (cM hBw hap) ?_
 rintro ⟨y25,hy25⟩
 refine ba [0,2,3] [] 1 ⟨48,[iI 0,iI y21,.bool y22,.bool true,iI y25,iI 0]⟩ <| kG <| d2 1 [2,3,26] [(26,aP g)] 36 [gP g] (some 27) 0 rfl rfl hlo (cM hBw hap) ?_
 rintro ⟨y26,hy26⟩
 refine ba [2,3] [] 1 ⟨48,[iI 0,iI y21,.bool y22,.bool true,iI y25,iI y26]⟩ <| kQ <| ba [2] [(2,.p 0 0)] 0 ⟨48,[iI 0,iI y21,.bool y22,.bool true,iI y25,iI y26]⟩ <| kR ?_
 exact ⟨[.agg #[iI 0,iI y21,.bool y22,.bool true,iI y25,iI y26]],by kernel_rfl,fun w' hb hf => ⟨⟨⟨0,y21,y22,true,y25,y26⟩,trivial⟩,rfl,hf (cF B g A J cap) (by simp),ar (hf (bd w (fun b => b = g)) (by simp)) hb rfl rfl rfl⟩⟩
 refine kK <| kQ <| ba [2] [(2,.p 0 0)] 0 ⟨48,[iI 0,iI y21,.bool y22,.bool false,iI 0,iI 0]⟩ <| kR ?_
 exact ⟨[.agg #[iI 0,iI y21,.bool y22,.bool false,iI 0,iI 0]],by kernel_rfl,fun w' hb hf => ⟨⟨⟨0,y21,y22,false,0,0⟩,trivial⟩,rfl,hf (cF B g A J cap) (by simp),ar (hf (bd w (fun b => b = g)) (by simp)) hb rfl rfl rfl⟩⟩
 refine kK <| kQ <| d2 1 [0,2,3,17] [(17,aP g)] 26 [gP g,iI 2] (some 18) 0 rfl rfl hlo (bo hBw hap) ?_
 rintro ⟨y27,hy27⟩
 refine ba [0,2,3] [] 1 ⟨48,[iI 0,iI (-1),.bool y27,.bool false,iI 0,iI 0]⟩ <| kS <| kQ <| d2 1 [0,2,3,20] [(20,aP g)] 26 [gP g,iI 2] (some 21) 0 rfl rfl hlo (bo hBw hap) ?_
 rintro ⟨y28,hy28⟩
 refine aU [0,2,3,21] [] <| kC (y28) (fun h29 => ?_) (fun h29 => ?_)
 refine kQ <| cv [0,2,3] ⟨[(0,aP g),(2,.p 0 0),(3,.p 1 0)],[⟨48,[iI 0,iI 0,.bool false,.bool false,iI 0,iI 0]⟩,⟨48,[iI 0,iI (-1),.bool y27,.bool true,iI 0,iI 0]⟩],[],[cF B g A J cap,sQ A J cap,bd w (fun b => b = g)]⟩ <| kQ <| d2 1 [0,2,3,23] [(23,aP g)] 36 [gP g] (some 24) 0 rfl rfl hlo (cM hBw hap) ?_
 rintro ⟨y30,hy30⟩
 refine ba [0,2,3] [] 1 ⟨48,[iI 0,iI (-1),.bool y27,.bool true,iI y30,iI 0]⟩ <| kG <| d2 1 [2,3,26] [(26,aP g)] 36 [gP g] (some 27) 0 rfl rfl hlo (cM hBw hap) ?_
 rintro ⟨y31,hy31⟩
 refine ba [2,3] [] 1 ⟨48,[iI 0,iI (-1),.bool y27,.bool true,iI y30,iI y31]⟩ <| kQ <| ba [2] [(2,.p 0 0)] 0 ⟨48,[iI 0,iI (-1),.bool y27,.bool true,iI y30,iI y31]⟩ <| kR ?_
 exact ⟨[.agg #[iI 0,iI (-1),.bool y27,.bool true,iI y30,iI y31]],by kernel_rfl,fun w' hb hf => ⟨⟨⟨0,(-1),y27,true,y30,y31⟩,trivial⟩,rfl,hf (cF B g A J cap) (by simp),ar (hf (bd w (fun b => b = g)) (by simp)) hb rfl rfl rfl⟩⟩
 refine kK <| kQ <| cv [2] ⟨[(2,.p 0 0)],[⟨48,[iI 0,iI (-1),.bool y27,.bool false,iI 0,iI 0]⟩,⟨48,[iI 0,iI (-1),.bool y27,.bool false,iI 0,iI 0]⟩],[],[cF B g A J cap,sQ A J cap,bd w (fun b => b = g)]⟩ <| kR ?_
 exact ⟨[.agg #[iI 0,iI (-1),.bool y27,.bool false,iI 0,iI 0]],by kernel_rfl,fun w' hb hf => ⟨⟨⟨0,(-1),y27,false,0,0⟩,trivial⟩,rfl,hf (cF B g A J cap) (by simp),ar (hf (bd w (fun b => b = g)) (by simp)) hb rfl rfl rfl⟩⟩
theorem l8Options_c_K {g : Nat} {J : List Int} {A : Option Addr} {cap : Nat}  {w0 : World} {fs : List Fact} {B : Nat} (hB : B ≤ w0.heap.size) (hap : ¬ (sQ A J cap).blk g)  (hn : J.length ≤ 1048576 := by omega) (h1 : cF B g A J cap ∈ fs := by simp) (h2 : sQ A J cap ∈ fs := by simp) : XCM Try.prog w0 fs (cF B g A J cap).blk 37 [gP g] (α := {y : Opt // True}) (fun y => .agg (dI y.1).toArray) (fun _ => [cF B g A J cap]) := cE fun w hw hf => l8Options_c g J A cap  w B (Nat.le_trans hB hw) (hf _ h1) (hf _ h2) hap hn  
theorem l8Bent_c (g : Nat) (J : List Int) (A : Option Addr) (cap : Nat)  (w : World) (B : Nat) (hB : B ≤ w.heap.size) (hc : (cF B g A J cap).p w) (hl : Sl w (sJ A J cap) 1 (J.map bR)) (hap : ¬ (sQ A J cap).blk g) (hn : J.length ≤ 1048576)  : Calls Try.prog 30 #[gP g] w fun e w' => ∃ y : {y : Opt // True}, e = .returned (.agg (dI y.1).toArray) ∧ (cF B g A J cap).p w' ∧ Chgd (fun b => b = g) w w' := by
 have hq_code := Sl.capLe hl
 have hBw : B ≤ (aw w B).heap.size := Nat.le_of_eq (aW hB).symm
 have hlo : ∀ (ww : World) (b : Nat),(cF B g A J cap).p ww → (cF B g A J cap).blk b → (aw w B).heap.size ≤ b := fun ww b h hb => Nat.le_trans (bC w B) (cQ h hb)
 refine ci (args := [gP g]) (fn := Try.f30) [cF B g A J cap,sQ A J cap,bd w (fun b => b = g)] B Try.func30 rfl Try.ntmps30 rfl hB (by simp only [List.mem_cons,List.not_mem_nil,or_false,forall_eq_or_imp,forall_eq]; exact ⟨hc,hl,bn w _⟩) (bX hap rfl) ?_
 refine kQ <| cv [0,2] ⟨[(0,aP g),(2,.p 0 0)],[⟨48,[iI 0,iI 0,.bool false,.bool false,iI 0,iI 0]⟩],[],[cF B g A J cap,sQ A J cap,bd w (fun b => b = g)]⟩ <| kQ <| d2 1 [0,2,4] [(4,aP g)] 37 [gP g] (some 5) 0 rfl rfl hlo (l8Options_c_K hBw hap) ?_
 rintro ⟨y1,hy1⟩
 refine kEA [0,2,3] [(3,.p 1 0)] [⟨48,dI y1⟩] <| kS <| kQ <| d2 1 [0,2,3,6] [(6,aP g)] 16 [gP g,iI 10] (some 7) 0 rfl rfl hlo (av hBw hap) ?_
 rintro ⟨y2,hy2⟩
 obtain ⟨hy20,hy21⟩ := hy2
 refine aU [0,2,3,7] [] <| aj <| kQ <| aU [0,2,3,7,8] [(8,aB (y2 == 0))] ?_
 refine kC (y2 == 0) (fun h3 => ?_) (fun h3 => ?_)
 have h3p := cN h3
 refine kG <| d2 1 [2,3,10] [(10,aP g)] 47 [gP g] (some 11) 0 rfl rfl hlo (eZ hBw hap) ?_
 rintro ⟨y4,hy4⟩
 refine ba [2,3] [] 1 ⟨48,dI { y1 with mss := y4 }⟩ <| kQ <| ba [2] [(2,.p 0 0)] 0 ⟨48,dI { y1 with mss := y4 }⟩ <| kR ?_
 exact ⟨[.agg (dI { y1 with mss := y4 }).toArray],by kernel_rfl,fun w' hb hf => ⟨⟨{ y1 with mss := y4 },trivial⟩,rfl,hf (cF B g A J cap) (by simp),ar (hf (bd w (fun b => b = g)) (by simp)) hb rfl rfl rfl⟩⟩
 have h3p := cI h3
 refine kQ <| aU [0,2,3,7,13] [(13,aB (y2 == 1))] <| kC (y2 == 1) (fun h5 => ?_) (fun h5 => ?_)
 have h5p := cN h5
 refine kG <| kHD 1 [2,3,15] [(15,aP g)] rfl (aQ (e := 3) (K := 1) (bytes := 8) [iI (-2),iI (-1),iI 14,iI 15] (rs := ([(-2),(-1),14,15] : List Int).map az) rfl rfl) ?_
 intro g6
 refine dj (φ := ¬ (bz (.slice (some ⟨g6,0,none⟩) 4 4) 1 (([(-2),(-1),14,15] : List Int).map az)).blk g) (fun _ _ _ _ hr => fun hb => hr.2.apart 0 1 (a9 (aw w B).heap.size 3 1 (.slice (some ⟨g6,0,none⟩) 4 4) (([(-2),(-1),14,15] : List Int).map az)) (cF B g A J cap) rfl rfl (by decide) rfl g (bf hb) rfl) (fun hk7 => ?_)
 refine d2 0 [2,3,15,16] [] 19 [gP g,.slice (some ⟨g6,0,none⟩) 4 4] (some 17) 1 rfl rfl hlo (aL hBw hap (fun ww hw hf => (au (hf _ m0))) hk7 (by simp)) ?_
 rintro ⟨y8,hy8⟩
 refine ba [2,3] [] 1 ⟨48,dI { y1 with scale := y8 }⟩ <| kQ <| ba [2] [(2,.p 0 0)] 0 ⟨48,dI { y1 with scale := y8 }⟩ <| kR ?_
 exact ⟨[.agg (dI { y1 with scale := y8 }).toArray],by kernel_rfl,fun w' hb hf => ⟨⟨{ y1 with scale := y8 },trivial⟩,rfl,hf (cF B g A J cap) (by simp),ar (hf (bd w (fun b => b = g)) (by simp)) hb rfl rfl rfl⟩⟩
 have h5p := cI h5
 refine kQ <| aU [0,2,3,7,19] [(19,aB (y2 == 2))] <| kC (y2 == 2) (fun h9 => ?_) (fun h9 => ?_)
 have h9p := cN h9
 refine kG <| ba [2,3] [] 1 ⟨48,dI { y1 with stamp := !y1.stamp }⟩ <| kQ <| ba [2] [(2,.p 0 0)] 0 ⟨48,dI { y1 with stamp := !y1.stamp }⟩ ?_
 refine kR ?_
 exact ⟨[.agg (dI { y1 with stamp := !y1.stamp }).toArray],by kernel_rfl,fun w' hb hf => ⟨⟨{ y1 with stamp := !y1.stamp },trivial⟩,rfl,hf (cF B g A J cap) (by simp),ar (hf (bd w (fun b => b = g)) (by simp)) hb rfl rfl rfl⟩⟩
 have h9p := cI h9
 refine kQ <| aU [0,2,3,25] [(25,aB (y2 == 3))] <| kC (y2 == 3) (fun h10 => ?_) (fun h10 => ?_)
 have h10p := cN h10
 refine kG <| d2 1 [2,3,27] [(27,aP g)] 47 [gP g] (some 28) 0 rfl rfl hlo (eZ hBw hap) ?_
 rintro ⟨y11,hy11⟩
 refine ba [2,3] [] 1 ⟨48,dI { y1 with val := y11 }⟩ <| kQ <| cv [2] ⟨[(2,.p 0 0)],[⟨48,dI { y1 with val := y11 }⟩,⟨48,dI { y1 with val := y11 }⟩],[],[cF B g A J cap,sQ A J cap,bd w (fun b => b = g)]⟩ <| kR ?_
 exact ⟨[.agg (dI { y1 with val := y11 }).toArray],by kernel_rfl,fun w' hb hf => ⟨⟨{ y1 with val := y11 },trivial⟩,rfl,hf (cF B g A J cap) (by simp),ar (hf (bd w (fun b => b = g)) (by simp)) hb rfl rfl rfl⟩⟩
 have h10p := cI h10
 refine kK <| kQ <| ba [2] [(2,.p 0 0)] 0 ⟨48,dI y1⟩ <| kR ?_
 exact ⟨[.agg (dI y1).toArray],by kernel_rfl,fun w' hb hf => ⟨⟨y1,trivial⟩,rfl,hf (cF B g A J cap) (by simp),ar (hf (bd w (fun b => b = g)) (by simp)) hb rfl rfl rfl⟩⟩
theorem l8Bent_c_K {g : Nat} {J : List Int} {A : Option Addr} {cap : Nat}  {w0 : World} {fs : List Fact} {B : Nat} (hB : B ≤ w0.heap.size) (hap : ¬ (sQ A J cap).blk g)  (hn : J.length ≤ 1048576 := by omega) (h1 : cF B g A J cap ∈ fs := by simp) (h2 : sQ A J cap ∈ fs := by simp) : XCM Try.prog w0 fs (cF B g A J cap).blk 30 [gP g] (α := {y : Opt // True}) (fun y => .agg (dI y.1).toArray) (fun _ => [cF B g A J cap]) := cE fun w hw hf => l8Bent_c g J A cap  w B (Nat.le_trans hB hw) (hf _ h1) (hf _ h2) hap hn  
theorem l12Tuple_c (g : Nat) (J : List Int) (A : Option Addr) (cap : Nat)  (w : World) (B : Nat) (hB : B ≤ w.heap.size) (hc : (cF B g A J cap).p w) (hl : Sl w (sJ A J cap) 1 (J.map bR)) (hap : ¬ (sQ A J cap).blk g) (hn : J.length ≤ 1048576)  : Calls Try.prog 18 #[gP g] w fun e w' => ∃ y : {y : Tup // True}, e = .returned (.agg (bV y.1).toArray) ∧ (cF B g A J cap).p w' ∧ Chgd (fun b => b = g) w w' := by
 have hq_code := Sl.capLe hl
 have hBw : B ≤ (aw w B).heap.size := Nat.le_of_eq (aW hB).symm
 have hlo : ∀ (ww : World) (b : Nat),(cF B g A J cap).p ww → (cF B g A J cap).blk b → (aw w B).heap.size ≤ b := fun ww b h hb => Nat.le_trans (bC w B) (cQ h hb)
 refine ci (args := [gP g]) (fn := Try.f18) [cF B g A J cap,sQ A J cap,bd w (fun b => b = g)] B Try.func18 rfl Try.ntmps18 rfl hB (by simp only [List.mem_cons,List.not_mem_nil,or_false,forall_eq_or_imp,forall_eq]; exact ⟨hc,hl,bn w _⟩) (bX hap rfl) ?_
 refine kQ <| cv [0,2] ⟨[(0,aP g),(2,.p 0 0)],[⟨30,bV (⟨0,0,0⟩ : Tup)⟩],[],[cF B g A J cap,sQ A J cap,bd w (fun b => b = g)]⟩ <| kQ <| d2 1 [0,2,3] [(3,aP g)] 32 [gP g] (some 4) 0 rfl rfl hlo (l6Ip_c_K hBw hap) ?_
 rintro ⟨y1,hy1⟩
 refine kHD 1 [2,4,5] [(5,aP g)] rfl (aQ (e := 3) (K := 1) (bytes := 8) [iI 40000,iI 40001,iI 40002] (rs := ([40000,40001,40002] : List Int).map az) rfl rfl) ?_
 intro g2
 refine dj (φ := ¬ (bz (.slice (some ⟨g2,0,none⟩) 3 3) 1 (([40000,40001,40002] : List Int).map az)).blk g) (fun _ _ _ _ hr => fun hb => hr.2.apart 0 1 (a9 (aw w B).heap.size 3 1 (.slice (some ⟨g2,0,none⟩) 3 3) (([40000,40001,40002] : List Int).map az)) (cF B g A J cap) rfl rfl (by decide) rfl g (bf hb) rfl) (fun hk3 => ?_)
 refine d2 0 [2,4,5,6] [] 19 [gP g,.slice (some ⟨g2,0,none⟩) 3 3] (some 7) 1 rfl rfl hlo (aL hBw hap (fun ww hw hf => (au (hf _ m0))) hk3 (by simp)) ?_
 rintro ⟨y4,hy4⟩
 refine fD 0 [2,4,7] [] (.agg (bV (⟨y1,y4,80⟩ : Tup)).toArray) rfl (fun _ _ _ ww hr => aH [(0,iI y1),(1,iI y4),(2,iI 80)] hr.1 rfl (by kernel_rfl) (by kernel_rfl) ww) ?_
 refine ba [2] [(2,.p 0 0)] 0 ⟨30,bV (⟨y1,y4,80⟩ : Tup)⟩ <| kR ?_
 exact ⟨[.agg (bV (⟨y1,y4,80⟩ : Tup)).toArray],by kernel_rfl,fun w' hb hf => ⟨⟨⟨y1,y4,80⟩,trivial⟩,rfl,hf (cF B g A J cap) (by simp),ar (hf (bd w (fun b => b = g)) (by simp)) hb rfl rfl rfl⟩⟩
theorem fh {g : Nat} {J : List Int} {A : Option Addr} {cap : Nat}  {w0 : World} {fs : List Fact} {B : Nat} (hB : B ≤ w0.heap.size) (hap : ¬ (sQ A J cap).blk g)  (hn : J.length ≤ 1048576 := by omega) (h1 : cF B g A J cap ∈ fs := by simp) (h2 : sQ A J cap ∈ fs := by simp) : XCM Try.prog w0 fs (cF B g A J cap).blk 18 [gP g] (α := {y : Tup // True}) (fun y => .agg (bV y.1).toArray) (fun _ => [cF B g A J cap]) := cE fun w hw hf => l12Tuple_c g J A cap  w B (Nat.le_trans hB hw) (hf _ h1) (hf _ h2) hap hn  
theorem l12Bent_c (g : Nat) (J : List Int) (A : Option Addr) (cap : Nat)  (w : World) (B : Nat) (hB : B ≤ w.heap.size) (hc : (cF B g A J cap).p w) (hl : Sl w (sJ A J cap) 1 (J.map bR)) (hap : ¬ (sQ A J cap).blk g) (hn : J.length ≤ 1048576)  : Calls Try.prog 31 #[gP g] w fun e w' => ∃ y : {y : Tup // True}, e = .returned (.agg (bV y.1).toArray) ∧ (cF B g A J cap).p w' ∧ Chgd (fun b => b = g) w w' := by
 have hq_code := Sl.capLe hl
 have hBw : B ≤ (aw w B).heap.size := Nat.le_of_eq (aW hB).symm
 have hlo : ∀ (ww : World) (b : Nat),(cF B g A J cap).p ww → (cF B g A J cap).blk b → (aw w B).heap.size ≤ b := fun ww b h hb => Nat.le_trans (bC w B) (cQ h hb)
 refine ci (args := [gP g]) (fn := Try.f31) [cF B g A J cap,sQ A J cap,bd w (fun b => b = g)] B Try.func31 rfl Try.ntmps31 rfl hB (by simp only [List.mem_cons,List.not_mem_nil,or_false,forall_eq_or_imp,forall_eq]; exact ⟨hc,hl,bn w _⟩) (bX hap rfl) ?_
 refine kQ <| cv [0,2] ⟨[(0,aP g),(2,.p 0 0)],[⟨30,bV (⟨0,0,0⟩ : Tup)⟩],[],[cF B g A J cap,sQ A J cap,bd w (fun b => b = g)]⟩ <| kQ <| d2 1 [0,2,4] [(4,aP g)] 18 [gP g] (some 5) 0 rfl rfl hlo (fh hBw hap) ?_
 rintro ⟨y1,hy1⟩
 refine kEA [0,2,3] [(3,.p 1 0)] [⟨30,bV y1⟩] <| kS <| kQ <| d2 1 [0,2,3,6] [(6,aP g)] 16 [gP g,iI 10] (some 7) 0 rfl rfl hlo (av hBw hap) ?_
 rintro ⟨y2,hy2⟩
 obtain ⟨hy20,hy21⟩ := hy2
 refine aU [0,2,3,7] [] <| aj <| kQ <| aU [0,2,3,7,8] [(8,aB (y2 == 0))] ?_
 refine kC (y2 == 0) (fun h3 => ?_) (fun h3 => ?_)
 have h3p := cN h3
 refine kG <| d2 1 [2,3,10] [(10,aP g)] 47 [gP g] (some 11) 0 rfl rfl hlo (eZ hBw hap) ?_
 rintro ⟨y4,hy4⟩
 refine ba [2,3] [] 1 ⟨30,bV { y1 with ip := y4 }⟩ <| kQ <| ba [2] [(2,.p 0 0)] 0 ⟨30,bV { y1 with ip := y4 }⟩ <| kR ?_
 exact ⟨[.agg (bV { y1 with ip := y4 }).toArray],by kernel_rfl,fun w' hb hf => ⟨⟨{ y1 with ip := y4 },trivial⟩,rfl,hf (cF B g A J cap) (by simp),ar (hf (bd w (fun b => b = g)) (by simp)) hb rfl rfl rfl⟩⟩
 have h3p := cI h3
 refine kQ <| aU [0,2,3,7,13] [(13,aB (y2 == 1))] <| kC (y2 == 1) (fun h5 => ?_) (fun h5 => ?_)
 have h5p := cN h5
 refine kG <| d2 1 [2,3,15] [(15,aP g)] 47 [gP g] (some 16) 0 rfl rfl hlo (eZ hBw hap) ?_
 rintro ⟨y6,hy6⟩
 refine ba [2,3] [] 1 ⟨30,bV { y1 with port := y6 }⟩ <| kQ <| ba [2] [(2,.p 0 0)] 0 ⟨30,bV { y1 with port := y6 }⟩ <| kR ?_
 exact ⟨[.agg (bV { y1 with port := y6 }).toArray],by kernel_rfl,fun w' hb hf => ⟨⟨{ y1 with port := y6 },trivial⟩,rfl,hf (cF B g A J cap) (by simp),ar (hf (bd w (fun b => b = g)) (by simp)) hb rfl rfl rfl⟩⟩
 have h5p := cI h5
 refine kQ <| aU [0,2,3,18] [(18,aB (y2 == 2))] <| kC (y2 == 2) (fun h7 => ?_) (fun h7 => ?_)
 have h7p := cN h7
 refine kG <| d2 1 [2,3,20] [(20,aP g)] 47 [gP g] (some 21) 0 rfl rfl hlo (eZ hBw hap) ?_
 rintro ⟨y8,hy8⟩
 refine ba [2,3] [] 1 ⟨30,bV { y1 with my := y8 }⟩ <| kQ <| ba [2] [(2,.p 0 0)] 0 ⟨30,bV { y1 with my := y8 }⟩ <| kR ?_
 exact ⟨[.agg (bV { y1 with my := y8 }).toArray],by kernel_rfl,fun w' hb hf => ⟨⟨{ y1 with my := y8 },trivial⟩,rfl,hf (cF B g A J cap) (by simp),ar (hf (bd w (fun b => b = g)) (by simp)) hb rfl rfl rfl⟩⟩
 have h7p := cI h7
 refine kK <| kQ <| ba [2] [(2,.p 0 0)] 0 ⟨30,bV y1⟩ <| kR ?_
 exact ⟨[.agg (bV y1).toArray],by kernel_rfl,fun w' hb hf => ⟨⟨y1,trivial⟩,rfl,hf (cF B g A J cap) (by simp),ar (hf (bd w (fun b => b = g)) (by simp)) hb rfl rfl rfl⟩⟩
theorem l12Bent_c_K {g : Nat} {J : List Int} {A : Option Addr} {cap : Nat}  {w0 : World} {fs : List Fact} {B : Nat} (hB : B ≤ w0.heap.size) (hap : ¬ (sQ A J cap).blk g)  (hn : J.length ≤ 1048576 := by omega) (h1 : cF B g A J cap ∈ fs := by simp) (h2 : sQ A J cap ∈ fs := by simp) : XCM Try.prog w0 fs (cF B g A J cap).blk 31 [gP g] (α := {y : Tup // True}) (fun y => .agg (bV y.1).toArray) (fun _ => [cF B g A J cap]) := cE fun w hw hf => l12Bent_c g J A cap  w B (Nat.le_trans hB hw) (hf _ h1) (hf _ h2) hap hn  
theorem big_c (J : List Int) (A : Option Addr) (cap : Nat) (w : World) (hl : Sl w (sJ A J cap) 1 (J.map bR)) : Calls Try.prog 4 #[.slice A J.length cap] w fun e w' => e = .returned (.bool (decide (((J.length : Nat) : Int) > 1048576))) ∧ Below w.heap.size w w' := by
 refine cn (args := [.slice A J.length cap]) (fn := Try.f4) [sQ A J cap] Try.func4 rfl Try.ntmps4 rfl (by simp only [List.mem_cons,List.not_mem_nil,or_false,forall_eq]; exact ⟨rfl,hl⟩) ?_
 refine kQ <| cv [0] ⟨[(0,.v (sJ A J cap))],[],[],[sQ A J cap]⟩ <| kQ <| aD [2] [(2,aB (decide (((J.length : Nat) : Int) > 1048576)))] ?_
 refine kR ?_
 exact ⟨[.bool (decide (((J.length : Nat) : Int) > 1048576))],by kernel_rfl,fun w' hb hf => ⟨rfl,hb⟩⟩
theorem eJ (g : Nat) (J : List Int) (A : Option Addr) (cap : Nat) (n : Int) (w : World) (B : Nat) (hB : B ≤ w.heap.size) (hc : (cF B g A J cap).p w) (hl : Sl w (sJ A J cap) 1 (J.map bR)) (hap : ¬ (sQ A J cap).blk g) (hn : J.length ≤ 1048576) (hn0 : 0 ≤ n ∧ n ≤ 4096) : Calls Try.prog 39 #[gP g, iI n] w fun e w' => ∃ y : {y : List Int × (Option Addr × Nat) // y.1.length ≤ 4096}, e = .returned (.slice y.1.2.1 y.1.1.length y.1.2.2) ∧ (cF B g A J cap).p w' ∧ (a9 w.heap.size 5 1 (.slice y.1.2.1 y.1.1.length y.1.2.2) (y.1.1.map bR)).p w' ∧ g < w.heap.size ∧ Chgd (fun b => b = g) w w' := by
 have hq_code := Sl.capLe hl
 have hBw : B ≤ (aw w B).heap.size := Nat.le_of_eq (aW hB).symm
 have hlo : ∀ (ww : World) (b : Nat),(cF B g A J cap).p ww → (cF B g A J cap).blk b → (aw w B).heap.size ≤ b := fun ww b h hb => Nat.le_trans (bC w B) (cQ h hb)
 refine eI (args := [gP g,iI n]) (fn := Try.f39) [cF B g A J cap,sQ A J cap,bd w (fun b => b = g)] B Try.func39 rfl Try.ntmps39 rfl hB (by simp only [List.mem_cons,List.not_mem_nil,or_false,forall_eq_or_imp,forall_eq]; exact ⟨hc,hl,bn w _⟩) (bX hap rfl) ?_
 have hgl : g < w.heap.size := (cF B g A J cap).lt w g hc rfl
 refine kQ <| cv [0,1] ⟨[(0,aP g),(1,aI n)],[],[],[cF B g A J cap,sQ A J cap,bd w (fun b => b = g)]⟩ <| kQ <| kHD 0 [0,1] [] rfl (aQ (e := 5) (K := 1) (bytes := 1) [] (rs := ([] : List Int).map bR) rfl rfl) ?_
 intro g1
 refine aU [0,1,5] [(5,.v (.slice (some ⟨g1,0,none⟩) 0 0))] <| kS <| kQ <| aU [0,1,5,6] [(6,aI 0)] ?_
 refine aj <| bI (α := {x : Nat × List Int × Option Addr × Nat // (fun (i : Nat) (bs : List Int) (A1 : Option Addr) (c1 : Nat) => (i : Int) ≤ n ∧ bs.length = i) x.1 x.2.1 x.2.2.1 x.2.2.2}) (fun x => (fun (i : Nat) (bs : List Int) (A1 : Option Addr) (c1 : Nat) => (⟨[(0,aP g),(1,aI n),(5,.v (.slice A1 bs.length c1)),(6,aI (i : Int))],[],[],[a9 (aw w B).heap.size 5 1 (.slice A1 bs.length c1) (bs.map bR),cF B g A J cap,sQ A J cap,bd w (fun b => b = g)]⟩ : St)) x.1.1 x.1.2.1 x.1.2.2.1 x.1.2.2.2) (fun x => (fun (i : Nat) (bs : List Int) (A1 : Option Addr) (c1 : Nat) => n.toNat - i) x.1.1 x.1.2.1 x.1.2.2.1 x.1.2.2.2) ⟨(0,([] : List Int),(some ⟨g1,0,none⟩),0),⟨(by omega),rfl⟩⟩ (en [0,1,2,3] <| kF 0 0 [0,1,5,6]) ?_
 rintro ⟨⟨i,bs,A1,c1⟩,hi,hbl⟩
 try dsimp only
 try dsimp only at hi hbl
 refine kS <| kQ <| aU [0,1,5,6,10] [(10,aB (decide ((i : Int) < n)))] <| kC (decide ((i : Int) < n)) (fun h2 => ?_) (fun h2 => ?_)
 have h2p := of_decide_eq_true h2
 have hlt : (i : Int) < n := of_decide_eq_true h2
 refine kK <| kS <| aj <| kG <| d2 2 [0,1,5,6,13,14] [(13,.v (.slice A1 bs.length c1)),(14,aP g)] 27 [gP g] (some 15) 1 rfl rfl hlo (ec hBw hap) ?_
 rintro ⟨y3,hy3⟩
 refine kHD 1 [0,1,5,6,13,16] [(16,.v (.int .u8 (IntKind.u8.wrap y3)))] rfl (aQ (e := 5) (K := 1) (bytes := 1) [.int .u8 (IntKind.u8.wrap y3)] (rs := ([IntKind.u8.wrap y3] : List Int).map bR) rfl rfl) ?_
 intro g4
 refine kHD 0 [0,1,5,6,13,17] [] rfl (aG (e := 5) (K := 1) (bytes := 1) (i := 2) (q := (bs ++ ([IntKind.u8.wrap y3] : List Int)).length) (new := ([IntKind.u8.wrap y3] : List Int).map bR) (rs' := (bs ++ ([IntKind.u8.wrap y3] : List Int)).map bR) rfl rfl rfl rfl (by kernel_rfl) (by kernel_rfl) (by kernel_rfl) rfl (by simp) (by rw [List.map_append]) (by simp) (fun ww hf => (au (hf (a9 (aw w B).heap.size 5 1 (.slice (some ⟨g4,0,none⟩) 1 1) (([IntKind.u8.wrap y3] : List Int).map bR)) (by simp)))) (by intro r hr; obtain ⟨x,hx,rfl⟩ := List.mem_map.1 hr; exact ⟨rfl,by simp [bR,Value.oneCell']⟩) (by (try simp only [List.length_map,List.length_append,List.length_cons,List.length_nil,List.length_take,List.length_drop,maxLen]); omega) (by (try simp only [List.length_map,List.length_append,List.length_cons,List.length_nil,List.length_take,List.length_drop,maxLen]); omega)) ?_
 rintro ⟨v5a,v5c⟩
 refine aU [0,1,5,6] [(5,.v (.slice v5a ((bs ++ ([IntKind.u8.wrap y3] : List Int)).length) v5c))] <| kG <| dK 3 [0,1,5,6] [(6,aI (K6.wrap ((i : Int) + 1)))] <| cJ [0,1,5,6] [(6,aI (K6.wrap ((i : Int) + 1)))] [(6,aI ((i : Int) + 1))] (by rw [show (K6.wrap ((i : Int) + 1)) = ((i : Int) + 1) from al (by omega) (by omega)]) (by kernel_rfl) ?_
 refine aD [0,1,5,6] [(0,aP g),(1,aI n),(5,.v (.slice v5a ((bs ++ ([IntKind.u8.wrap y3] : List Int)).length) v5c)),(6,aI ((i : Int) + 1))] ?_
 exact ⟨⟨(i + 1,(bs ++ ([IntKind.u8.wrap y3] : List Int)),v5a,v5c),⟨by omega,by simp [hbl]⟩⟩,en [0,2,3,4] <| kF 0 0 [0,1,5,6],by show (fun (i : Nat) (bs : List Int) (A1 : Option Addr) (c1 : Nat) => n.toNat - i) (i + 1) (bs ++ ([IntKind.u8.wrap y3] : List Int)) v5a v5c < n.toNat - i; (dsimp only; omega)⟩
 have h2p := of_decide_eq_false h2
 have hge : ¬ (i : Int) < n := of_decide_eq_false h2
 refine c5 <| kQ <| aD [4] [(4,.v (.slice A1 bs.length c1))] <| kR ?_
 exact ⟨[.slice A1 bs.length c1],by kernel_rfl,fun w' hb hf ha => ⟨⟨(bs,A1,c1),by dsimp only; omega⟩,rfl,hf (cF B g A J cap) (by simp),bv (hf (a9 (aw w B).heap.size 5 1 (.slice A1 bs.length c1) (bs.map bR)) (by simp)) (row_new ha (i := 0) (j := 1) (k := 3) rfl rfl rfl (by decide) (by decide)),hgl,ar (hf (bd w (fun b => b = g)) (by simp)) hb rfl rfl rfl⟩⟩
theorem l5Long_c (n : Int) (w : World) (h0 : 0 ≤ n ∧ n ≤ 4096) : Calls Try.prog 48 #[iI n] w fun e w' => e = .returned (.string (ai (List.replicate n.toNat 0))) ∧ Below w.heap.size w w' := by
 obtain ⟨m,rfl⟩ : ∃ m : Nat,n = (m : Int) := ⟨n.toNat,by omega⟩
 have hm : m ≤ 4096 := by omega
 refine cn (args := [iI (m : Int)]) (fn := Try.f48) [] Try.func48 rfl Try.ntmps48 rfl (by simp) ?_
 refine kQ <| cv [0] ⟨[(0,aI (m : Int))],[],[],[]⟩ <| kQ <| kHS 1 [4] [(4,aI (m : Int))] rfl (hv_make (kl := .i64) (kc := .i64) (e := 5) (K := 1) (bytes := 1) (m := m) (z := .int .u8 0) (rs := (List.replicate m 0).map bR) rfl (by kernel_rfl) (by kernel_rfl) (by kernel_rfl) (by kernel_rfl) (by (try simp only [List.length_map,List.length_append,List.length_cons,List.length_nil,List.length_take,List.length_drop,maxLen]); omega) (by (try simp only [List.length_map,List.length_append,List.length_cons,List.length_nil,List.length_take,List.length_drop,maxLen]); omega) (by rw [List.map_replicate]; rfl)) ?_
 intro g1
 refine aD [3] [(3,.v (.slice (some ⟨g1,0,none⟩) m m))] <| kQ <| kOS 1 [6] [(6,.v (.slice (some ⟨g1,0,none⟩) m m))] (.string (ai (List.replicate m 0))) rfl (fun _ _ _ ww hr => cG (e := 5) (List.replicate m 0) hr.1 rfl (by kernel_rfl) (by kernel_rfl) (by kernel_rfl) rfl (au (hr.2.fact (a9 w.heap.size 5 1 (.slice (some ⟨g1,0,none⟩) m m) ((List.replicate m 0).map bR)) (by simp)).1)) ?_
 refine aD [2] [(2,.v (.string (ai (List.replicate m 0))))] <| kR ?_
 exact ⟨[.string (ai (List.replicate m 0))],by kernel_rfl,fun w' hb hf => ⟨rfl,hb⟩⟩
theorem l9Flags_c (g : Nat) (J : List Int) (A : Option Addr) (cap : Nat)  (w : World) (B : Nat) (hB : B ≤ w.heap.size) (hc : (cF B g A J cap).p w) (hl : Sl w (sJ A J cap) 1 (J.map bR)) (hap : ¬ (sQ A J cap).blk g) (hn : J.length ≤ 1048576)  : Calls Try.prog 72 #[gP g] w fun e w' => ∃ y : {y : Int // True}, e = .returned (iI y.1) ∧ (cF B g A J cap).p w' ∧ Chgd (fun b => b = g) w w' := by
 have hq_code := Sl.capLe hl
 have hBw : B ≤ (aw w B).heap.size := Nat.le_of_eq (aW hB).symm
 have hlo : ∀ (ww : World) (b : Nat),(cF B g A J cap).p ww → (cF B g A J cap).blk b → (aw w B).heap.size ≤ b := fun ww b h hb => Nat.le_trans (bC w B) (cQ h hb)
 refine ci (args := [gP g]) (fn := Try.f72) [cF B g A J cap,sQ A J cap,bd w (fun b => b = g)] B Try.func72 rfl Try.ntmps72 rfl hB (by simp only [List.mem_cons,List.not_mem_nil,or_false,forall_eq_or_imp,forall_eq]; exact ⟨hc,hl,bn w _⟩) (bX hap rfl) ?_
 refine kQ <| cv [0] ⟨[(0,aP g)],[],[],[cF B g A J cap,sQ A J cap,bd w (fun b => b = g)]⟩ <| kQ <| kWS 2 [3,4] [(3,aP g),(4,aP g)] 16 [gP g,iI 64] (some 5) 0 rfl rfl hlo (av hBw hap) ?_
 rintro ⟨y1,hy1⟩
 obtain ⟨hy10,hy11⟩ := hy1
 refine kHD 0 [3,5] [] rfl (aQ (e := 3) (K := 1) (bytes := 8) [iI 2,iI 16,iI 16,iI 18,iI 24,iI 17,iI 4,iI 20,iI 0,iI y1] (rs := ([2,16,16,18,24,17,4,20,0,y1] : List Int).map az) rfl rfl) ?_
 intro g2
 refine dj (φ := ¬ (bz (.slice (some ⟨g2,0,none⟩) 10 10) 1 (([2,16,16,18,24,17,4,20,0,y1] : List Int).map az)).blk g) (fun _ _ _ _ hr => fun hb => hr.2.apart 0 1 (a9 (aw w B).heap.size 3 1 (.slice (some ⟨g2,0,none⟩) 10 10) (([2,16,16,18,24,17,4,20,0,y1] : List Int).map az)) (cF B g A J cap) rfl rfl (by decide) rfl g (bf hb) rfl) (fun hk3 => ?_)
 refine d2 0 [3,6] [] 19 [gP g,.slice (some ⟨g2,0,none⟩) 10 10] (some 7) 1 rfl rfl hlo (aL hBw hap (fun ww hw hf => (au (hf _ m0))) hk3 (by simp)) ?_
 rintro ⟨y4,hy4⟩
 refine aD [2] [(2,aI y4)] <| kR ?_
 exact ⟨[iI y4],by kernel_rfl,fun w' hb hf => ⟨⟨y4,trivial⟩,rfl,hf (cF B g A J cap) (by simp),ar (hf (bd w (fun b => b = g)) (by simp)) hb rfl rfl rfl⟩⟩
theorem l9Flags_c_K {g : Nat} {J : List Int} {A : Option Addr} {cap : Nat}  {w0 : World} {fs : List Fact} {B : Nat} (hB : B ≤ w0.heap.size) (hap : ¬ (sQ A J cap).blk g)  (hn : J.length ≤ 1048576 := by omega) (h1 : cF B g A J cap ∈ fs := by simp) (h2 : sQ A J cap ∈ fs := by simp) : XCM Try.prog w0 fs (cF B g A J cap).blk 72 [gP g] (α := {y : Int // True}) (fun y => iI y.1) (fun _ => [cF B g A J cap]) := cE fun w hw hf => l9Flags_c g J A cap  w B (Nat.le_trans hB hw) (hf _ h1) (hf _ h2) hap hn  
theorem l1Pick_c (g : Nat) (J : List Int) (A : Option Addr) (cap : Nat) (list : List ByteArray) (listV : Value) (w : World) (B : Nat) (hB : B ≤ w.heap.size) (hc : (cF B g A J cap).p w) (hl : Sl w (sJ A J cap) 1 (J.map bR)) (hap : ¬ (sQ A J cap).blk g) (hn : J.length ≤ 1048576) (hl_listV : Sl w listV 1 (list.map cX)) (hap2 : ¬ (bz listV 1 (list.map cX)).blk g) (hne : 0 < list.length) : Calls Try.prog 50 #[gP g, listV] w fun e w' => ∃ y : {y : ByteArray // y ∈ list}, e = .returned (.string y.1) ∧ (cF B g A J cap).p w' ∧ Chgd (fun b => b = g) w w' := by
 have hq_code := Sl.capLe hl
 have hBw : B ≤ (aw w B).heap.size := Nat.le_of_eq (aW hB).symm
 have hlo : ∀ (ww : World) (b : Nat),(cF B g A J cap).p ww → (cF B g A J cap).blk b → (aw w B).heap.size ≤ b := fun ww b h hb => Nat.le_trans (bC w B) (cQ h hb)
 obtain ⟨Al,Cl,hvl⟩ := hl_listV.form
 rw [List.length_map] at hvl; subst hvl
 have hnl := hl_listV.len; rw [List.length_map] at hnl
 have hql := Sl.capLe hl_listV
 refine ci (args := [gP g,.slice Al list.length Cl]) (fn := Try.f50) [cF B g A J cap,sQ A J cap,bd w (fun b => b = g),bz (.slice Al list.length Cl) 1 (list.map cX)] B Try.func50 rfl Try.ntmps50 rfl hB (by simp only [List.mem_cons,List.not_mem_nil,or_false,forall_eq_or_imp,forall_eq]; exact ⟨hc,hl,bn w _,hl_listV⟩) (apart_cur2 hap rfl hap2 rfl) ?_
 refine kQ <| cv [0,1] ⟨[(0,aP g),(1,.v (.slice Al list.length Cl))],[],[],[cF B g A J cap,sQ A J cap,bd w (fun b => b = g),bz (.slice Al list.length Cl) 1 (list.map cX)]⟩ <| kQ <| kWS 4 [5,6,8] [(5,.v (.slice Al list.length Cl)),(6,aP g),(8,aI ((list.length : Nat) : Int))] 16 [gP g,iI ((list.length : Nat) : Int)] (some 9) 0 rfl rfl hlo (av hBw hap) ?_
 rintro ⟨y1,hy1⟩
 obtain ⟨hy10,hy11⟩ := hy1
 obtain ⟨j2,hj2⟩ : ∃ j : Nat,y1 = (j : Int) := ⟨y1.toNat,by omega⟩
 subst hj2
 have hlt : j2 < list.length := by omega
 obtain ⟨z,hz⟩ : ∃ z,list[j2]? = some z := ⟨_,List.getElem?_eq_getElem hlt⟩
 refine fe (kd := .i64) (T := 91) (e := 9) (K := 1) 0 [5,9] [] j2 [.string z] (bz (.slice Al list.length Cl) 1 (list.map cX)) (by kernel_rfl) rfl (by kernel_rfl) rfl rfl (by kernel_rfl) (by kernel_rfl) (by kernel_rfl) (by kernel_rfl) hlt (by simp) (fun w h => h) (fun b h => h) (by simp only [List.getElem?_map,hz]; rfl) ?_
 refine aD [4] [(4,.v (.string z))] <| kR ?_
 exact ⟨[.string z],by kernel_rfl,fun w' hb hf => ⟨⟨z,List.mem_of_getElem? hz⟩,rfl,hf (cF B g A J cap) (by simp),ar (hf (bd w (fun b => b = g)) (by simp)) hb rfl rfl rfl⟩⟩
theorem l1Pick_c_K {g : Nat} {J : List Int} {A : Option Addr} {cap : Nat} {list : List ByteArray} {listV : Value} {w0 : World} {fs : List Fact} {B : Nat} (hB : B ≤ w0.heap.size) (hap : ¬ (sQ A J cap).blk g) (hs0 : ∀ w : World, w0.heap.size ≤ w.heap.size → (∀ f ∈ fs, f.p w) → Sl w listV 1 (list.map cX)) (hq0 : ¬ (bz listV 1 (list.map cX)).blk g) (hne : 0 < list.length) (hn : J.length ≤ 1048576 := by omega) (h1 : cF B g A J cap ∈ fs := by simp) (h2 : sQ A J cap ∈ fs := by simp) : XCM Try.prog w0 fs (cF B g A J cap).blk 50 [gP g, listV] (α := {y : ByteArray // y ∈ list}) (fun y => .string y.1) (fun _ => [cF B g A J cap]) := cE fun w hw hf => l1Pick_c g J A cap list listV w B (Nat.le_trans hB hw) (hf _ h1) (hf _ h2) hap hn (hs0 w hw hf) hq0 hne
theorem l18Stream_c (g : Nat) (J : List Int) (A : Option Addr) (cap : Nat) (r : Rcv) (r_heldV : Value) (w : World) (B : Nat) (hB : B ≤ w.heap.size) (hc : (cF B g A J cap).p w) (hl : Sl w (sJ A J cap) 1 (J.map bR)) (hap : ¬ (sQ A J cap).blk g) (hn : J.length ≤ 1048576)  : Calls Try.prog 70 #[gP g, .agg (ab r r_heldV).toArray] w fun e w' => ∃ y : {y : Int × ByteArray × Bool // y.2.1.size ≤ 4096}, e = .returned (.tuple #[iI y.1.1, .string y.1.2.1, .bool y.1.2.2]) ∧ (cF B g A J cap).p w' ∧ Chgd (fun b => b = g) w w' := by
 have hq_code := Sl.capLe hl
 have hBw : B ≤ (aw w B).heap.size := Nat.le_of_eq (aW hB).symm
 have hlo : ∀ (ww : World) (b : Nat),(cF B g A J cap).p ww → (cF B g A J cap).blk b → (aw w B).heap.size ≤ b := fun ww b h hb => Nat.le_trans (bC w B) (cQ h hb)
 refine ci (args := [gP g,.agg (ab r r_heldV).toArray]) (fn := Try.f70) [cF B g A J cap,sQ A J cap,bd w (fun b => b = g)] B Try.func70 rfl Try.ntmps70 rfl hB (by simp only [List.mem_cons,List.not_mem_nil,or_false,forall_eq_or_imp,forall_eq]; exact ⟨hc,hl,bn w _⟩) (bX hap rfl) ?_
 refine kQ <| cv [0,3] ⟨[(0,aP g),(3,.p 0 0)],[⟨46,ab r r_heldV⟩],[],[cF B g A J cap,sQ A J cap,bd w (fun b => b = g)]⟩ <| kQ <| d2 1 [0,3,11] [(11,aP g)] 16 [gP g,iI 40] (some 12) 0 rfl rfl hlo (av hBw hap) ?_
 rintro ⟨y1,hy1⟩
 obtain ⟨hy10,hy11⟩ := hy1
 refine aU [0,3,7] [(7,aI (K6.wrap (y1 - 6)))] <| kQ <| d2 1 [0,3,7,14] [(14,aP g)] 16 [gP g,iI 9] (some 15) 0 rfl rfl hlo (av hBw hap) ?_
 rintro ⟨y2,hy2⟩
 obtain ⟨hy20,hy21⟩ := hy2
 refine aU [0,3,7,8] [(8,aI y2)] <| kQ <| kHD 0 [0,3,7,8] [] rfl (aQ (e := 5) (K := 1) (bytes := 1) [] (rs := ([] : List Int).map bR) rfl rfl) ?_
 intro g3
 refine aU [0,3,7,8,9] [(9,.v (.slice (some ⟨g3,0,none⟩) 0 0))] <| kS <| kQ <| aU [0,3,7,8,9,10] [(10,aI 0)] ?_
 refine aj <| bI (α := {x : Nat × List Int × Option Addr × Nat // (fun (i : Nat) (bs : List Int) (A1 : Option Addr) (c1 : Nat) => (i : Int) ≤ y2 ∧ bs.length = i) x.1 x.2.1 x.2.2.1 x.2.2.2}) (fun x => (fun (i : Nat) (bs : List Int) (A1 : Option Addr) (c1 : Nat) => (⟨[(0,aP g),(3,.p 0 0),(7,aI (K6.wrap (y1 - 6))),(8,aI y2),(9,.v (.slice A1 bs.length c1)),(10,aI (i : Int))],[⟨46,ab r r_heldV⟩],[],[a9 (aw w B).heap.size 5 1 (.slice A1 bs.length c1) (bs.map bR),cF B g A J cap,sQ A J cap,bd w (fun b => b = g)]⟩ : St)) x.1.1 x.1.2.1 x.1.2.2.1 x.1.2.2.2) (fun x => (fun (i : Nat) (bs : List Int) (A1 : Option Addr) (c1 : Nat) => (y2).toNat - i) x.1.1 x.1.2.1 x.1.2.2.1 x.1.2.2.2) ⟨(0,([] : List Int),(some ⟨g3,0,none⟩),0),⟨(by omega),rfl⟩⟩ (en [0,1,2,3] <| kF 1 0 [0,3,7,8,9,10]) ?_
 rintro ⟨⟨i,bs,A1,c1⟩,hi,hbl⟩
 try dsimp only
 try dsimp only at hi hbl
 refine kS <| kQ <| aU [0,3,7,8,9,10,19] [(19,aB (decide ((i : Int) < y2)))] <| kC (decide ((i : Int) < y2)) (fun h4 => ?_) (fun h4 => ?_)
 have h4p := of_decide_eq_true h4
 have hlt :  (i : Int) < y2 := of_decide_eq_true h4
 refine kK <| kS <| aj <| kG <| dZ 7 [0,3,7,8,9,10,22,28] [(22,.v (.slice A1 bs.length c1)),(28,aI (K6.wrap ((K6.wrap (r.next + (K6.wrap (y1 - 6)))) + (i : Int))))] 74 [iI (K6.wrap ((K6.wrap (r.next + (K6.wrap (y1 - 6)))) + (i : Int)))] (some 29) rfl (bF fun ww hf => fj (K6.wrap ((K6.wrap (r.next + (K6.wrap (y1 - 6)))) + (i : Int))) ww ) ?_
 intro _
 refine fD 0 [0,3,7,8,9,10,22,29] [] (iI (Int.tmod ((K6.wrap ((K6.wrap (r.next + (K6.wrap (y1 - 6)))) + (i : Int))) % 4294967296) 26)) rfl (fun _ _ _ ww hr => ck hr.1 rfl (by kernel_rfl) (by kernel_rfl) (rem_run (by first | decide | omega) ww)) ?_
 refine kHS 2 [0,3,7,8,9,10,22,32] [(0,aP g),(3,.p 0 0),(7,aI (K6.wrap (y1 - 6))),(8,aI y2),(9,.v (.slice A1 bs.length c1)),(10,aI (i : Int)),(22,.v (.slice A1 bs.length c1)),(32,.v (.int .u8 (IntKind.u8.wrap (K6.wrap (97 + (Int.tmod ((K6.wrap ((K6.wrap (r.next + (K6.wrap (y1 - 6)))) + (i : Int))) % 4294967296) 26))))))] rfl (aQ (e := 5) (K := 1) (bytes := 1) [.int .u8 (IntKind.u8.wrap (K6.wrap (97 + (Int.tmod ((K6.wrap ((K6.wrap (r.next + (K6.wrap (y1 - 6)))) + (i : Int))) % 4294967296) 26))))] (rs := ([IntKind.u8.wrap (K6.wrap (97 + (Int.tmod ((K6.wrap ((K6.wrap (r.next + (K6.wrap (y1 - 6)))) + (i : Int))) % 4294967296) 26)))] : List Int).map bR) rfl rfl) ?_
 intro g5
 refine kHD 0 [0,3,7,8,9,10,22,33] [] rfl (aG (e := 5) (K := 1) (bytes := 1) (i := 1) (q := (bs ++ ([IntKind.u8.wrap (K6.wrap (97 + (Int.tmod ((K6.wrap ((K6.wrap (r.next + (K6.wrap (y1 - 6)))) + (i : Int))) % 4294967296) 26)))] : List Int)).length) (new := ([IntKind.u8.wrap (K6.wrap (97 + (Int.tmod ((K6.wrap ((K6.wrap (r.next + (K6.wrap (y1 - 6)))) + (i : Int))) % 4294967296) 26)))] : List Int).map bR) (rs' := (bs ++ ([IntKind.u8.wrap (K6.wrap (97 + (Int.tmod ((K6.wrap ((K6.wrap (r.next + (K6.wrap (y1 - 6)))) + (i : Int))) % 4294967296) 26)))] : List Int)).map bR) rfl rfl rfl rfl (by kernel_rfl) (by kernel_rfl) (by kernel_rfl) rfl (by simp) (by rw [List.map_append]) (by simp) (fun ww hf => (au (hf (a9 (aw w B).heap.size 5 1 (.slice (some ⟨g5,0,none⟩) 1 1) (([IntKind.u8.wrap (K6.wrap (97 + (Int.tmod ((K6.wrap ((K6.wrap (r.next + (K6.wrap (y1 - 6)))) + (i : Int))) % 4294967296) 26)))] : List Int).map bR)) (by simp)))) (by intro r hr; obtain ⟨x,hx,rfl⟩ := List.mem_map.1 hr; exact ⟨rfl,by simp [bR,Value.oneCell']⟩) (by (try simp only [List.length_map,List.length_append,List.length_cons,List.length_nil,List.length_take,List.length_drop,maxLen]); omega) (by (try simp only [List.length_map,List.length_append,List.length_cons,List.length_nil,List.length_take,List.length_drop,maxLen]); omega)) ?_
 rintro ⟨v6a,v6c⟩
 refine aU [0,3,7,8,9,10] [(9,.v (.slice v6a ((bs ++ ([IntKind.u8.wrap (K6.wrap (97 + (Int.tmod ((K6.wrap ((K6.wrap (r.next + (K6.wrap (y1 - 6)))) + (i : Int))) % 4294967296) 26)))] : List Int)).length) v6c))] <| kG <| dK 3 [0,3,7,8,9,10] [(10,aI (K6.wrap ((i : Int) + 1)))] <| cJ [0,3,7,8,9,10] [(10,aI (K6.wrap ((i : Int) + 1)))] [(10,aI ((i : Int) + 1))] (by rw [show (K6.wrap ((i : Int) + 1)) = ((i : Int) + 1) from al (by omega) (by omega)]) (by kernel_rfl) ?_
 refine aU [0,3,7,8,9,10] [] ?_
 exact ⟨⟨(i + 1,(bs ++ ([IntKind.u8.wrap (K6.wrap (97 + (Int.tmod ((K6.wrap ((K6.wrap (r.next + (K6.wrap (y1 - 6)))) + (i : Int))) % 4294967296) 26)))] : List Int)),v6a,v6c),⟨(by omega),(by simp [hbl])⟩⟩,en [0,2,3,4] <| kF 1 0 [0,3,7,8,9,10],by show (fun (i : Nat) (bs : List Int) (A1 : Option Addr) (c1 : Nat) => (y2).toNat - i) (i + 1) (bs ++ ([IntKind.u8.wrap (K6.wrap (97 + (Int.tmod ((K6.wrap ((K6.wrap (r.next + (K6.wrap (y1 - 6)))) + (i : Int))) % 4294967296) 26)))] : List Int)) v6a v6c < (y2).toNat - i; (dsimp only; omega)⟩
 have h4p := of_decide_eq_false h4
 have hge : ¬ (i : Int) < y2 := of_decide_eq_false h4
 refine c5 <| kS <| kQ <| d2 1 [0,3,7,8,9,35] [(35,aP g)] 26 [gP g,iI 6] (some 36) 1 rfl rfl hlo (bo hBw hap) ?_
 rintro ⟨y7,hy7⟩
 refine aU [0,3,7,8,9,36] [] <| kC (y7) (fun h8 => ?_) (fun h8 => ?_)
 refine kG <| kWS 2 [0,3,7,9,37,38] [(0,aP g),(3,.p 0 0),(7,aI (K6.wrap (y1 - 6))),(9,.v (.slice A1 bs.length c1)),(37,aP g),(38,aI y2)] 39 [gP g,iI y2] (some 39) 0 rfl rfl hlo (eT fun ww hw hf => eJ g J A cap y2 ww B (Nat.le_trans (by first | exact Nat.le_refl _ | exact Nat.le_of_eq (aW hB).symm) hw) (hf (cF B g A J cap) (by simp)) (hf _ m2) hap (by omega) (by omega)) ?_
 rintro ⟨⟨b9l,b9a,b9c⟩,hb9⟩
 dsimp only at hb9
 refine aU [0,3,7,9] [(9,.v (.slice b9a b9l.length b9c))] <| kS <| bw [] (by kernel_rfl) (fun ρ σ => ?_)
 refine cK [0,1,2,4,6] [46,44,42,41] 6 [(46,aP g),(44,.v (.slice b9a b9l.length b9c)),(42,aI (K6.wrap (y1 - 6))),(41,aI r.next)] <| kA [3,5] ⟨?_,?_⟩
 refine d8 3 56 [iI r.next,iI (K6.wrap (y1 - 6))] (some 43) rfl (bF fun ww hf => bk r.next (K6.wrap (y1 - 6)) ww ) ?_
 intro _
 refine kA [5,7] ⟨?_,?_⟩
 refine kSR 5 (.string (ai b9l)) rfl (fun _ _ ww hr => cG (e := 5) b9l hr.1 rfl (by kernel_rfl) (by kernel_rfl) (by kernel_rfl) rfl (au (hr.2.fact (a9 (aw w B).heap.size 5 1 (.slice b9a b9l.length b9c) (b9l.map bR)) (by simp)).1)) ?_
 refine kA [7] <| eD 7 26 [gP g,iI 6] (some 47) 1 rfl rfl hlo (a5 a7) (bo hBw hap) ?_
 rintro ⟨y10,hy10⟩
 refine cK [8,9,10] [6,5,4] 0 [(6,aB y10),(5,.v (.string (ai b9l))),(4,aI (sA r.next (K6.wrap (y1 - 6))))] <| kZ <| kR ?_
 exact ⟨[iI (sA r.next (K6.wrap (y1 - 6))),.string (ai b9l),.bool y10],by kernel_rfl,fun w' hb hf => ⟨⟨(sA r.next (K6.wrap (y1 - 6)),ai b9l,y10),(by show (ai _).size ≤ 4096; rw [cU]; omega)⟩,rfl,hf (cF B g A J cap) (by simp),ar (hf (bd w (fun b => b = g)) (by simp)) hb rfl rfl rfl⟩⟩
 refine eD 7 26 [gP g,iI 6] (some 47) 1 rfl rfl hlo (a5 a7) (bo hBw hap) ?_
 rintro ⟨y11,hy11⟩
 refine d3 [8] [4,47,44] 3 [(4,aI (sA r.next (K6.wrap (y1 - 6)))),(47,aB y11)] <| kA [5] <| kSR 5 (.string (ai b9l)) rfl (fun _ _ ww hr => cG (e := 5) b9l hr.1 rfl (by kernel_rfl) (by kernel_rfl) (by kernel_rfl) rfl (au (hr.2.fact (a9 (aw w B).heap.size 5 1 (.slice b9a b9l.length b9c) (b9l.map bR)) (by simp)).1)) ?_
 refine d3 [9,10] [6,5,4] 0 [(6,aB y11),(5,.v (.string (ai b9l)))] <| kZ <| kR ?_
 exact ⟨[iI (sA r.next (K6.wrap (y1 - 6))),.string (ai b9l),.bool y11],by kernel_rfl,fun w' hb hf => ⟨⟨(sA r.next (K6.wrap (y1 - 6)),ai b9l,y11),(by show (ai _).size ≤ 4096; rw [cU]; omega)⟩,rfl,hf (cF B g A J cap) (by simp),ar (hf (bd w (fun b => b = g)) (by simp)) hb rfl rfl rfl⟩⟩
 refine kSR 5 (.string (ai b9l)) rfl (fun _ _ ww hr => cG (e := 5) b9l hr.1 rfl (by kernel_rfl) (by kernel_rfl) (by kernel_rfl) rfl (au (hr.2.fact (a9 (aw w B).heap.size 5 1 (.slice b9a b9l.length b9c) (b9l.map bR)) (by simp)).1)) ?_
 refine kA [3] <| d8 3 56 [iI r.next,iI (K6.wrap (y1 - 6))] (some 43) rfl (bF fun ww hf => bk r.next (K6.wrap (y1 - 6)) ww ) ?_
 intro _
 refine kA [7] <| eD 7 26 [gP g,iI 6] (some 47) 1 rfl rfl hlo (a5 a7) (bo hBw hap) ?_
 rintro ⟨y12,hy12⟩
 refine cK [8,9,10] [6,5,4] 0 [(6,aB y12),(5,.v (.string (ai b9l))),(4,aI (sA r.next (K6.wrap (y1 - 6))))] <| kZ <| kR ?_
 exact ⟨[iI (sA r.next (K6.wrap (y1 - 6))),.string (ai b9l),.bool y12],by kernel_rfl,fun w' hb hf => ⟨⟨(sA r.next (K6.wrap (y1 - 6)),ai b9l,y12),(by show (ai _).size ≤ 4096; rw [cU]; omega)⟩,rfl,hf (cF B g A J cap) (by simp),ar (hf (bd w (fun b => b = g)) (by simp)) hb rfl rfl rfl⟩⟩
 refine kK <| kS <| bw [] (by kernel_rfl) (fun ρ σ => ?_)
 refine cK [0,1,2,4,6] [46,44,42,41] 6 [(46,aP g),(44,.v (.slice A1 bs.length c1)),(42,aI (K6.wrap (y1 - 6))),(41,aI r.next)] <| kA [3,5] ⟨?_,?_⟩
 refine d8 3 56 [iI r.next,iI (K6.wrap (y1 - 6))] (some 43) rfl (bF fun ww hf => bk r.next (K6.wrap (y1 - 6)) ww ) ?_
 intro _
 refine kA [5,7] ⟨?_,?_⟩
 refine kSR 5 (.string (ai bs)) rfl (fun _ _ ww hr => cG (e := 5) bs hr.1 rfl (by kernel_rfl) (by kernel_rfl) (by kernel_rfl) rfl (au (hr.2.fact (a9 (aw w B).heap.size 5 1 (.slice A1 bs.length c1) (bs.map bR)) (by simp)).1)) ?_
 refine kA [7] <| eD 7 26 [gP g,iI 6] (some 47) 0 rfl rfl hlo (a5 a7) (bo hBw hap) ?_
 rintro ⟨y13,hy13⟩
 refine cK [8,9,10] [6,5,4] 0 [(6,aB y13),(5,.v (.string (ai bs))),(4,aI (sA r.next (K6.wrap (y1 - 6))))] <| kZ <| kR ?_
 exact ⟨[iI (sA r.next (K6.wrap (y1 - 6))),.string (ai bs),.bool y13],by kernel_rfl,fun w' hb hf => ⟨⟨(sA r.next (K6.wrap (y1 - 6)),ai bs,y13),(by show (ai _).size ≤ 4096; rw [cU]; omega)⟩,rfl,hf (cF B g A J cap) (by simp),ar (hf (bd w (fun b => b = g)) (by simp)) hb rfl rfl rfl⟩⟩
 refine eD 7 26 [gP g,iI 6] (some 47) 0 rfl rfl hlo (a5 a7) (bo hBw hap) ?_
 rintro ⟨y14,hy14⟩
 refine d3 [8] [4,47,44] 3 [(4,aI (sA r.next (K6.wrap (y1 - 6)))),(47,aB y14)] <| kA [5] <| kSR 5 (.string (ai bs)) rfl (fun _ _ ww hr => cG (e := 5) bs hr.1 rfl (by kernel_rfl) (by kernel_rfl) (by kernel_rfl) rfl (au (hr.2.fact (a9 (aw w B).heap.size 5 1 (.slice A1 bs.length c1) (bs.map bR)) (by simp)).1)) ?_
 refine d3 [9,10] [6,5,4] 0 [(6,aB y14),(5,.v (.string (ai bs)))] <| kZ <| kR ?_
 exact ⟨[iI (sA r.next (K6.wrap (y1 - 6))),.string (ai bs),.bool y14],by kernel_rfl,fun w' hb hf => ⟨⟨(sA r.next (K6.wrap (y1 - 6)),ai bs,y14),(by show (ai _).size ≤ 4096; rw [cU]; omega)⟩,rfl,hf (cF B g A J cap) (by simp),ar (hf (bd w (fun b => b = g)) (by simp)) hb rfl rfl rfl⟩⟩
 refine kSR 5 (.string (ai bs)) rfl (fun _ _ ww hr => cG (e := 5) bs hr.1 rfl (by kernel_rfl) (by kernel_rfl) (by kernel_rfl) rfl (au (hr.2.fact (a9 (aw w B).heap.size 5 1 (.slice A1 bs.length c1) (bs.map bR)) (by simp)).1)) ?_
 refine kA [3] <| d8 3 56 [iI r.next,iI (K6.wrap (y1 - 6))] (some 43) rfl (bF fun ww hf => bk r.next (K6.wrap (y1 - 6)) ww ) ?_
 intro _
 refine kA [7] <| eD 7 26 [gP g,iI 6] (some 47) 0 rfl rfl hlo (a5 a7) (bo hBw hap) ?_
 rintro ⟨y15,hy15⟩
 refine cK [8,9,10] [6,5,4] 0 [(6,aB y15),(5,.v (.string (ai bs))),(4,aI (sA r.next (K6.wrap (y1 - 6))))] <| kZ <| kR ?_
 exact ⟨[iI (sA r.next (K6.wrap (y1 - 6))),.string (ai bs),.bool y15],by kernel_rfl,fun w' hb hf => ⟨⟨(sA r.next (K6.wrap (y1 - 6)),ai bs,y15),(by show (ai _).size ≤ 4096; rw [cU]; omega)⟩,rfl,hf (cF B g A J cap) (by simp),ar (hf (bd w (fun b => b = g)) (by simp)) hb rfl rfl rfl⟩⟩
theorem l18Stream_c_K {g : Nat} {J : List Int} {A : Option Addr} {cap : Nat} {r : Rcv} {r_heldV : Value} {w0 : World} {fs : List Fact} {B : Nat} (hB : B ≤ w0.heap.size) (hap : ¬ (sQ A J cap).blk g)  (hn : J.length ≤ 1048576 := by omega) (h1 : cF B g A J cap ∈ fs := by simp) (h2 : sQ A J cap ∈ fs := by simp) : XCM Try.prog w0 fs (cF B g A J cap).blk 70 [gP g, .agg (ab r r_heldV).toArray] (α := {y : Int × ByteArray × Bool // y.2.1.size ≤ 4096}) (fun y => .tuple #[iI y.1.1, .string y.1.2.1, .bool y.1.2.2]) (fun _ => [cF B g A J cap]) := cE fun w hw hf => l18Stream_c g J A cap r r_heldV w B (Nat.le_trans hB hw) (hf _ h1) (hf _ h2) hap hn  
theorem l18Receiver_c (g : Nat) (J : List Int) (A : Option Addr) (cap : Nat) (w : World) (B : Nat) (hB : B ≤ w.heap.size) (hc : (cF B g A J cap).p w) (hl : Sl w (sJ A J cap) 1 (J.map bR)) (hap : ¬ (sQ A J cap).blk g) (hn : J.length ≤ 1048576) : Calls Try.prog 49 #[gP g] w fun e w' => ∃ y : {y : Rcv × (Option Addr × Nat) // RB 3 y.1}, e = .returned (.agg (ab y.1.1 (.slice y.1.2.1 y.1.1.held.length y.1.2.2)).toArray) ∧ (cF B g A J cap).p w' ∧ (a9 w.heap.size 72 2 (.slice y.1.2.1 y.1.1.held.length y.1.2.2) (y.1.1.held.map pC)).p w' ∧ g < w.heap.size ∧ Chgd (fun b => b = g) w w' := by
 have hq_code := Sl.capLe hl
 have hBw : B ≤ (aw w B).heap.size := Nat.le_of_eq (aW hB).symm
 have hlo : ∀ (ww : World) (b : Nat),(cF B g A J cap).p ww → (cF B g A J cap).blk b → (aw w B).heap.size ≤ b := fun ww b h hb => Nat.le_trans (bC w B) (cQ h hb)
 refine eI (args := [gP g]) (fn := Try.f49) [cF B g A J cap,sQ A J cap,bd w (fun b => b = g)] B Try.func49 rfl Try.ntmps49 rfl hB (by simp only [List.mem_cons,List.not_mem_nil,or_false,forall_eq_or_imp,forall_eq]; exact ⟨hc,hl,bn w _⟩) (bX hap rfl) ?_
 have hgl : g < w.heap.size := (cF B g A J cap).lt w g hc rfl
 refine kQ <| cv [0,2] ⟨[(0,aP g),(2,.p 0 0)],[⟨46,eV⟩],[],[cF B g A J cap,sQ A J cap,bd w (fun b => b = g)]⟩ <| kQ <| d2 1 [0,2,9] [(9,aP g)] 36 [gP g] (some 10) 0 rfl rfl hlo (cM hBw hap) ?_
 rintro ⟨y1,hy1⟩
 refine dZ 0 [0,2,10] [] 57 [iI y1] (some 11) rfl (cm fun ww hw hf => dJ y1 ww   ((aw w B).heap.size) hw) ?_
 rintro ⟨v2a,v2c⟩
 refine kEA [0,2,3] [(3,.p 1 0)] [⟨46,ab (rN y1) (.slice v2a ((rN y1).held.length) v2c)⟩] <| kQ <| d2 1 [0,2,3,12] [(12,aP g)] 16 [gP g,iI 7] (some 13) 1 rfl rfl hlo (av hBw hap) ?_
 rintro ⟨y3,hy3⟩
 obtain ⟨hy30,hy31⟩ := hy3
 refine aU [0,2,3,4] [(4,aI y3)] <| kS <| kQ <| aU [0,2,3,4,5] [(5,aI 0)] ?_
 refine aj <| bI (α := {x : Nat × Rcv × Option Addr × Nat // (fun (i : Nat) (r : Rcv) (A1 : Option Addr) (c1 : Nat) => (i : Int) ≤ y3 ∧ RB 3 r) x.1 x.2.1 x.2.2.1 x.2.2.2}) (fun x => (fun (i : Nat) (r : Rcv) (A1 : Option Addr) (c1 : Nat) => (⟨[(0,aP g),(2,.p 0 0),(3,.p 1 0),(4,aI y3),(5,aI (i : Int))],[⟨46,eV⟩,⟨46,ab r (.slice A1 r.held.length c1)⟩],[],[a9 (aw w B).heap.size 72 2 (.slice A1 r.held.length c1) (r.held.map pC),cF B g A J cap,sQ A J cap,bd w (fun b => b = g)]⟩ : St)) x.1.1 x.1.2.1 x.1.2.2.1 x.1.2.2.2) (fun x => (fun (i : Nat) (r : Rcv) (A1 : Option Addr) (c1 : Nat) => (y3).toNat - i) x.1.1 x.1.2.1 x.1.2.2.1 x.1.2.2.2) ⟨(0,(rN y1),v2a,v2c),⟨(by omega),RB.new _⟩⟩ (en [1,0,2,3] <| kF 2 0 [0,2,3,4,5]) ?_
 rintro ⟨⟨i,r,A1,c1⟩,hi,hrb⟩
 try dsimp only
 try dsimp only at hi hrb
 have hkn := hrb.up.kn; have hm := hrb.hm; have hsz := hrb.sz
 refine kS <| kQ <| aU [0,2,3,4,5,16] [(16,aB (decide ((i : Int) < y3)))] <| kC (decide ((i : Int) < y3)) (fun h4 => ?_) (fun h4 => ?_)
 have h4p := of_decide_eq_true h4
 have hlt :  (i : Int) < y3 := of_decide_eq_true h4
 refine kK <| kS <| aj <| kQ <| d2 2 [0,2,3,4,5,20,21] [(20,aP g),(21,.v (.agg (ab r (.slice A1 r.held.length c1)).toArray))] 70 [gP g,.agg (ab r (.slice A1 r.held.length c1)).toArray] (some 22) 1 rfl rfl hlo (l18Stream_c_K hBw hap) ?_
 rintro ⟨y5,hy5⟩
 refine aU [0,2,3,4,5,6,7,8] [(6,aI y5.1),(7,.v (.string y5.2.1)),(8,aB y5.2.2)] <| kQ <| dZ 4 [0,2,3,4,5,26,27,28,29] [(26,.v (.agg (ab r (.slice A1 r.held.length c1)).toArray)),(27,aI y5.1),(28,.v (.string y5.2.1)),(29,aB y5.2.2)] 82 [.agg (ab r (.slice A1 r.held.length c1)).toArray,iI y5.1,.string y5.2.1,.bool y5.2.2] (some 30) rfl (cm fun ww hw hf => ysArrived_c r (.slice A1 r.held.length c1) y5.1 y5.2.1 y5.2.2 ww (au (hf _ m1)) (by assumption) (by assumption) (by omega) (by omega) ((aw w B).heap.size) hw) ?_
 rintro ⟨v6a,v6c⟩
 have hra := RB.arr hrb (by omega) y5.1 y5.2.1 y5.2.2; have hka := hra.up.kn; have hma := hra.hm; have hza := hra.sz
 refine cv [0,2,3,4,5] ⟨[(0,aP g),(2,.p 0 0),(3,.p 1 0),(4,aI y3),(5,aI (i : Int))],[⟨46,eV⟩,⟨46,ab (ah r y5.1 y5.2.1 y5.2.2) (.slice v6a ((ah r y5.1 y5.2.1 y5.2.2).held.length) v6c)⟩],[],[a9 (aw w B).heap.size 72 2 (.slice v6a ((ah r y5.1 y5.2.1 y5.2.2).held.length) v6c) ((ah r y5.1 y5.2.1 y5.2.2).held.map pC),cF B g A J cap,a9 (aw w B).heap.size 72 2 (.slice A1 r.held.length c1) (r.held.map pC),sQ A J cap,bd w (fun b => b = g)]⟩ <| kQ <| d2 1 [0,2,3,4,5,31] [(31,aP g)] 26 [gP g,iI 3] (some 32) 1 rfl rfl hlo (bo hBw hap) ?_
 rintro ⟨y7,hy7⟩
 refine aU [0,2,3,4,5,32] [] <| kC (y7) (fun h8 => ?_) (fun h8 => ?_)
 refine bw [true,false] (by kernel_rfl) (fun ρ σ => ?_)
 refine d3 [1] [35,0,2,3,4,5] 7 [(35,aP g)] <| kA [0,2] ⟨?_,?_⟩
 refine e6 0 (.v (.agg (ab (ah r y5.1 y5.2.1 y5.2.2) (.slice v6a ((ah r y5.1 y5.2.1 y5.2.2).held.length) v6c)).toArray)) rfl <| kA [2] <| eD 2 16 [gP g,iI 20] (some 36) 0 rfl rfl hlo (a5 (aq rfl a7)) (av hBw hap) ?_
 rintro ⟨y9,hy9⟩
 obtain ⟨hy90,hy91⟩ := hy9
 refine kA [3] <| d8 3 64 [.agg (ab (ah r y5.1 y5.2.1 y5.2.2) (.slice v6a ((ah r y5.1 y5.2.1 y5.2.2).held.length) v6c)).toArray,iI y9] (some 37) rfl (cm fun ww hw hf => ysTakenIn_c (ah r y5.1 y5.2.1 y5.2.2) (.slice v6a ((ah r y5.1 y5.2.1 y5.2.2).held.length) v6c) y9 ww (au (hf _ m1)) (by assumption) (by assumption) (by omega) ((aw w B).heap.size) hw) ?_
 rintro ⟨v10a,v10c⟩
 refine d3 [4,5,6] [38,0,2,3,4,5] 1 [(38,.v (.agg (ab (ay (ah r y5.1 y5.2.1 y5.2.2) y9).1 (.slice v10a ((ay (ah r y5.1 y5.2.1 y5.2.2) y9).1.held.length) v10c)).toArray))] <| kA [7] <| dp 7 1 0 (ab (ay (ah r y5.1 y5.2.1 y5.2.2) y9).1 (.slice v10a ((ay (ah r y5.1 y5.2.1 y5.2.2) y9).1.held.length) v10c)) rfl <| kZ <| kG <| dK 3 [0,2,3,4,5] [(5,aI (K6.wrap ((i : Int) + 1)))] ?_
 refine cJ [0,2,3,4,5] [(5,aI (K6.wrap ((i : Int) + 1)))] [(5,aI ((i : Int) + 1))] (by rw [show (K6.wrap ((i : Int) + 1)) = ((i : Int) + 1) from al (by omega) (by omega)]) (by kernel_rfl) ?_
 refine aU [0,2,3,4,5] [] ?_
 exact ⟨⟨(i + 1,(ay (ah r y5.1 y5.2.1 y5.2.2) y9).1,v10a,v10c),⟨(by omega),(by first | exact hra | exact RB.taken hra _ | exact hrb)⟩⟩,en [0,1,4,5] <| kF 2 0 [0,2,3,4,5],by show (fun (i : Nat) (r : Rcv) (A1 : Option Addr) (c1 : Nat) => (y3).toNat - i) (i + 1) ((ay (ah r y5.1 y5.2.1 y5.2.2) y9).1) v10a v10c < (y3).toNat - i; (dsimp only; omega)⟩
 refine eD 2 16 [gP g,iI 20] (some 36) 0 rfl rfl hlo (a5 (aq rfl a7)) (av hBw hap) ?_
 rintro ⟨y11,hy11⟩
 obtain ⟨hy110,hy111⟩ := hy11
 refine kA [0] <| e6 0 (.v (.agg (ab (ah r y5.1 y5.2.1 y5.2.2) (.slice v6a ((ah r y5.1 y5.2.1 y5.2.2).held.length) v6c)).toArray)) rfl <| kA [3] <| d8 3 64 [.agg (ab (ah r y5.1 y5.2.1 y5.2.2) (.slice v6a ((ah r y5.1 y5.2.1 y5.2.2).held.length) v6c)).toArray,iI y11] (some 37) rfl (cm fun ww hw hf => ysTakenIn_c (ah r y5.1 y5.2.1 y5.2.2) (.slice v6a ((ah r y5.1 y5.2.1 y5.2.2).held.length) v6c) y11 ww (au (hf _ m1)) (by assumption) (by assumption) (by omega) ((aw w B).heap.size) hw) ?_
 rintro ⟨v12a,v12c⟩
 refine d3 [4,5,6] [38,0,2,3,4,5] 1 [(38,.v (.agg (ab (ay (ah r y5.1 y5.2.1 y5.2.2) y11).1 (.slice v12a ((ay (ah r y5.1 y5.2.1 y5.2.2) y11).1.held.length) v12c)).toArray))] <| kA [7] <| dp 7 1 0 (ab (ay (ah r y5.1 y5.2.1 y5.2.2) y11).1 (.slice v12a ((ay (ah r y5.1 y5.2.1 y5.2.2) y11).1.held.length) v12c)) rfl <| kZ <| kG <| dK 3 [0,2,3,4,5] [(5,aI (K6.wrap ((i : Int) + 1)))] ?_
 refine cJ [0,2,3,4,5] [(5,aI (K6.wrap ((i : Int) + 1)))] [(5,aI ((i : Int) + 1))] (by rw [show (K6.wrap ((i : Int) + 1)) = ((i : Int) + 1) from al (by omega) (by omega)]) (by kernel_rfl) ?_
 refine aU [0,2,3,4,5] [] ?_
 exact ⟨⟨(i + 1,(ay (ah r y5.1 y5.2.1 y5.2.2) y11).1,v12a,v12c),⟨(by omega),(by first | exact hra | exact RB.taken hra _ | exact hrb)⟩⟩,en [0,1,4,5] <| kF 2 0 [0,2,3,4,5],by show (fun (i : Nat) (r : Rcv) (A1 : Option Addr) (c1 : Nat) => (y3).toNat - i) (i + 1) ((ay (ah r y5.1 y5.2.1 y5.2.2) y11).1) v12a v12c < (y3).toNat - i; (dsimp only; omega)⟩
 refine kK <| kG <| dK 3 [0,2,3,4,5] [(5,aI (K6.wrap ((i : Int) + 1)))] <| cJ [0,2,3,4,5] [(5,aI (K6.wrap ((i : Int) + 1)))] [(5,aI ((i : Int) + 1))] (by rw [show (K6.wrap ((i : Int) + 1)) = ((i : Int) + 1) from al (by omega) (by omega)]) (by kernel_rfl) ?_
 refine aU [0,2,3,4,5] [] ?_
 exact ⟨⟨(i + 1,(ah r y5.1 y5.2.1 y5.2.2),v6a,v6c),⟨(by omega),(by first | exact hra | exact RB.taken hra _ | exact hrb)⟩⟩,en [1,0,3,4] <| kF 2 0 [0,2,3,4,5],by show (fun (i : Nat) (r : Rcv) (A1 : Option Addr) (c1 : Nat) => (y3).toNat - i) (i + 1) (ah r y5.1 y5.2.1 y5.2.2) v6a v6c < (y3).toNat - i; (dsimp only; omega)⟩
 have h4p := of_decide_eq_false h4
 have hge : ¬ (i : Int) < y3 := of_decide_eq_false h4
 refine c5 <| kQ <| ba [2] [(2,.p 0 0)] 0 ⟨46,ab r (.slice A1 r.held.length c1)⟩ <| kR ?_
 exact ⟨[.agg (ab r (.slice A1 r.held.length c1)).toArray],by kernel_rfl,fun w' hb hf ha => ⟨⟨(r,A1,c1),hrb⟩,rfl,hf (cF B g A J cap) (by simp),bv (hf (a9 (aw w B).heap.size 72 2 (.slice A1 r.held.length c1) (r.held.map pC)) (by simp)) (aF ha (i := 0) (j := 1) (k := 3) rfl rfl rfl rfl (by decide) (by decide)),hgl,ar (hf (bd w (fun b => b = g)) (by simp)) hb rfl rfl rfl⟩⟩
theorem l18Bent_c (g : Nat) (J : List Int) (A : Option Addr) (cap : Nat) (w : World) (B : Nat) (hB : B ≤ w.heap.size) (hc : (cF B g A J cap).p w) (hl : Sl w (sJ A J cap) 1 (J.map bR)) (hap : ¬ (sQ A J cap).blk g) (hn : J.length ≤ 1048576) : Calls Try.prog 29 #[gP g] w fun e w' => ∃ y : {y : Rcv × (Option Addr × Nat) // RB 4 y.1}, e = .returned (.agg (ab y.1.1 (.slice y.1.2.1 y.1.1.held.length y.1.2.2)).toArray) ∧ (cF B g A J cap).p w' ∧ (a9 w.heap.size 72 2 (.slice y.1.2.1 y.1.1.held.length y.1.2.2) (y.1.1.held.map pC)).p w' ∧ g < w.heap.size ∧ Chgd (fun b => b = g) w w' := by
 have hq_code := Sl.capLe hl
 have hBw : B ≤ (aw w B).heap.size := Nat.le_of_eq (aW hB).symm
 have hlo : ∀ (ww : World) (b : Nat),(cF B g A J cap).p ww → (cF B g A J cap).blk b → (aw w B).heap.size ≤ b := fun ww b h hb => Nat.le_trans (bC w B) (cQ h hb)
 refine eI (args := [gP g]) (fn := Try.f29) [cF B g A J cap,sQ A J cap,bd w (fun b => b = g)] B Try.func29 rfl Try.ntmps29 rfl hB (by simp only [List.mem_cons,List.not_mem_nil,or_false,forall_eq_or_imp,forall_eq]; exact ⟨hc,hl,bn w _⟩) (bX hap rfl) ?_
 have hgl : g < w.heap.size := (cF B g A J cap).lt w g hc rfl
 refine kQ <| cv [0,2] ⟨[(0,aP g),(2,.p 0 0)],[⟨46,eV⟩],[],[cF B g A J cap,sQ A J cap,bd w (fun b => b = g)]⟩ <| kQ <| d2 1 [0,2,4] [(4,aP g)] 49 [gP g] (some 5) 0 rfl rfl hlo (eT fun ww hw hf => l18Receiver_c g J A cap ww B (Nat.le_trans (by first | exact Nat.le_refl _ | exact Nat.le_of_eq (aW hB).symm) hw) (hf (cF B g A J cap) (by simp)) (hf _ m1) hap (by omega)) ?_
 rintro ⟨⟨b1m,b1a,b1c⟩,hb1⟩
 dsimp only at hb1
 have hb1n := hb1.1
 refine kEA [0,2,3] [(3,.p 1 0)] [⟨46,ab b1m (.slice b1a b1m.held.length b1c)⟩] <| kS <| d9 (α := {zz : Rcv × Option Addr × Nat // (fun (q : Rcv) (A3 : Option Addr) (c3 : Nat) => RB 4 q) zz.1 zz.2.1 zz.2.2}) (fun zz => (fun (q : Rcv) (A3 : Option Addr) (c3 : Nat) => (⟨[(2,.p 0 0),(3,.p 1 0)],[⟨46,eV⟩,⟨46,ab q (.slice A3 q.held.length c3)⟩],[],[a9 (aw w B).heap.size 72 2 (.slice A3 q.held.length c3) (q.held.map pC),cF B g A J cap,sQ A J cap,bd w (fun b => b = g)]⟩ : St)) zz.1.1 zz.1.2.1 zz.1.2.2) ?_ ?_
 refine kQ <| d2 1 [0,2,3,6] [(6,aP g)] 16 [gP g,iI 12] (some 7) 1 rfl rfl hlo (av hBw hap) ?_
 rintro ⟨y2,hy2⟩
 obtain ⟨hy20,hy21⟩ := hy2
 refine aU [0,2,3,7] [] <| aj <| kQ <| aU [0,2,3,7,8] [(8,aB (y2 == 0))] ?_
 refine kC (y2 == 0) (fun h3 => ?_) (fun h3 => ?_)
 have h3p := cN h3
 refine kG <| d2 1 [2,3,10] [(10,aP g)] 47 [gP g] (some 11) 0 rfl rfl hlo (eZ hBw hap) ?_
 rintro ⟨y4,hy4⟩
 refine ba [2,3] [] 1 ⟨46,ab { b1m with next := y4 } (.slice b1a b1m.held.length b1c)⟩ ?_
 exact ⟨⟨({ b1m with next := y4 },b1a,b1c),⟨Nat.le_trans hb1.1 (by decide),hb1.2.1,hb1.2.2⟩⟩,en [1,0,2,3] <| kF 2 0 [2,3]⟩
 have h3p := cI h3
 refine kQ <| aU [0,2,3,7,13] [(13,aB (y2 == 1))] <| kC (y2 == 1) (fun h5 => ?_) (fun h5 => ?_)
 have h5p := cN h5
 refine kG <| kHD 1 [2,3,15] [(15,aP g)] rfl (aQ (e := 3) (K := 1) (bytes := 8) [iI (-2),iI (-1),iI 0,iI 5,iI 32,iI 33] (rs := ([(-2),(-1),0,5,32,33] : List Int).map az) rfl rfl) ?_
 intro g6
 refine dj (φ := ¬ (bz (.slice (some ⟨g6,0,none⟩) 6 6) 1 (([(-2),(-1),0,5,32,33] : List Int).map az)).blk g) (fun _ _ _ _ hr => fun hb => hr.2.apart 0 1 (a9 (aw w B).heap.size 3 1 (.slice (some ⟨g6,0,none⟩) 6 6) (([(-2),(-1),0,5,32,33] : List Int).map az)) (cF B g A J cap) rfl rfl (by decide) rfl g (bf hb) rfl) (fun hk7 => ?_)
 refine d2 0 [2,3,15,16] [] 19 [gP g,.slice (some ⟨g6,0,none⟩) 6 6] (some 17) 1 rfl rfl hlo (aL hBw hap (fun ww hw hf => (au (hf _ m0))) hk7 (by simp)) ?_
 rintro ⟨y8,hy8⟩
 refine ba [2,3] [] 1 ⟨46,ab { b1m with fin := y8 } (.slice b1a b1m.held.length b1c)⟩ ?_
 exact ⟨⟨({ b1m with fin := y8 },b1a,b1c),⟨Nat.le_trans hb1.1 (by decide),hb1.2.1,hb1.2.2⟩⟩,en [2,0,3,4] <| kF 2 0 [2,3]⟩
 have h5p := cI h5
 refine kQ <| aU [0,2,3,7,19] [(19,aB (y2 == 2))] <| kC (y2 == 2) (fun h9 => ?_) (fun h9 => ?_)
 have h9p := cN h9
 refine kG <| ba [2,3] [] 1 ⟨46,ab { b1m with done := !b1m.done } (.slice b1a b1m.held.length b1c)⟩ ?_
 exact ⟨⟨({ b1m with done := !b1m.done },b1a,b1c),⟨Nat.le_trans hb1.1 (by decide),hb1.2.1,hb1.2.2⟩⟩,en [1,0,2,3] <| kF 2 0 [2,3]⟩
 have h9p := cI h9
 refine kQ <| aU [0,2,3,7,25] [(25,aB (y2 == 3))] <| kC (y2 == 3) (fun h10 => ?_) (fun h10 => ?_)
 have h10p := cN h10
 refine bw [true,false] (by kernel_rfl) (fun ρ σ => ?_)
 refine xe_cut (α := {zz : Nat × Int × Nat × ByteArray × Nat × Option Addr × Nat // (fun (g162 : Nat) (y213 : Int) (g312 : Nat) (y363 : ByteArray) (g462 : Nat) (v512a : Option Addr) (v512c : Nat) => y363 ∈ ([(⟨#[]⟩ : ByteArray),(⟨#[120]⟩ : ByteArray),(⟨#[121,122]⟩ : ByteArray)] : List ByteArray)) zz.1 zz.2.1 zz.2.2.1 zz.2.2.2.1 zz.2.2.2.2.1 zz.2.2.2.2.2.1 zz.2.2.2.2.2.2}) (fun zz => (fun (g162 : Nat) (y213 : Int) (g312 : Nat) (y363 : ByteArray) (g462 : Nat) (v512a : Option Addr) (v512c : Nat) => (⟨[(2,.p 0 0),(3,.p 1 0)],[⟨46,eV⟩,⟨46,ab { b1m with held := (b1m.held ++ ([⟨y213,y363⟩] : List Pce)) } (.slice v512a ((b1m.held ++ ([⟨y213,y363⟩] : List Pce)).length) v512c)⟩],[],[cF B g A J cap,sQ A J cap,bd w (fun b => b = g),a9 (aw w B).heap.size 3 1 (.slice (some ⟨g162,0,none⟩) 7 7) (([0,1,20,31,32,(-1),9223372036854775807] : List Int).map az),a9 (aw w B).heap.size 72 2 (.slice (some ⟨g462,0,none⟩) 1 1) (([⟨y213,y363⟩] : List Pce).map pC),a9 (aw w B).heap.size 72 2 (.slice v512a ((b1m.held ++ ([⟨y213,y363⟩] : List Pce)).length) v512c) ((b1m.held ++ ([⟨y213,y363⟩] : List Pce)).map pC),a9 (aw w B).heap.size 9 1 (.slice (some ⟨g312,0,none⟩) 3 3) (([(⟨#[]⟩ : ByteArray),(⟨#[120]⟩ : ByteArray),(⟨#[121,122]⟩ : ByteArray)] : List ByteArray).map cX)]⟩ : St)) zz.1.1 zz.1.2.1 zz.1.2.2.1 zz.1.2.2.2.1 zz.1.2.2.2.2.1 zz.1.2.2.2.2.2.1 zz.1.2.2.2.2.2.2) 0 (bi 13 8191) ?_ (fun hD7 => ?_)
 rintro ⟨⟨g162,y213,g312,y363,g462,v512a,v512c⟩,hy363⟩
 dsimp only
 try dsimp only at hy363
 refine kZ ?_
 exact ⟨⟨({ b1m with held := (b1m.held ++ ([⟨y213,y363⟩] : List Pce)) },v512a,v512c),(RB.more hb1 _ (by have hq := hy363; simp only [List.mem_cons,List.not_mem_nil,or_false] at hq; rcases hq with h | h | h <;> subst h <;> (dsimp only; decide)) hb1.2.2)⟩,en [5,0,1,2] <| kF 2 0 [2,3]⟩
 refine xe_cut (α := {zz : Nat × Int × Nat × ByteArray × Nat × Option Addr × Nat // (fun (g162 : Nat) (y213 : Int) (g312 : Nat) (y363 : ByteArray) (g462 : Nat) (v512a : Option Addr) (v512c : Nat) => y363 ∈ ([(⟨#[]⟩ : ByteArray),(⟨#[120]⟩ : ByteArray),(⟨#[121,122]⟩ : ByteArray)] : List ByteArray)) zz.1 zz.2.1 zz.2.2.1 zz.2.2.2.1 zz.2.2.2.2.1 zz.2.2.2.2.2.1 zz.2.2.2.2.2.2}) (fun zz => (fun (g162 : Nat) (y213 : Int) (g312 : Nat) (y363 : ByteArray) (g462 : Nat) (v512a : Option Addr) (v512c : Nat) => (⟨[(2,.p 0 0),(3,.p 1 0),(37,.v (.slice v512a ((b1m.held ++ ([⟨y213,y363⟩] : List Pce)).length) v512c))],[⟨46,eV⟩,⟨46,ab b1m (.slice b1a b1m.held.length b1c)⟩],[],[cF B g A J cap,sQ A J cap,bd w (fun b => b = g),a9 (aw w B).heap.size 3 1 (.slice (some ⟨g162,0,none⟩) 7 7) (([0,1,20,31,32,(-1),9223372036854775807] : List Int).map az),a9 (aw w B).heap.size 72 2 (.slice (some ⟨g462,0,none⟩) 1 1) (([⟨y213,y363⟩] : List Pce).map pC),a9 (aw w B).heap.size 72 2 (.slice v512a ((b1m.held ++ ([⟨y213,y363⟩] : List Pce)).length) v512c) ((b1m.held ++ ([⟨y213,y363⟩] : List Pce)).map pC),a9 (aw w B).heap.size 9 1 (.slice (some ⟨g312,0,none⟩) 3 3) (([(⟨#[]⟩ : ByteArray),(⟨#[120]⟩ : ByteArray),(⟨#[121,122]⟩ : ByteArray)] : List ByteArray).map cX)]⟩ : St)) zz.1.1 zz.1.2.1 zz.1.2.2.1 zz.1.2.2.2.1 zz.1.2.2.2.2.1 zz.1.2.2.2.2.2.1 zz.1.2.2.2.2.2.2) 2 (bi 13 2047) ?_ (fun hD6 => ?_)
 rintro ⟨⟨g162,y213,g312,y363,g462,v512a,v512c⟩,hy363⟩
 dsimp only
 try dsimp only at hy363
 refine cK [11] [38,2,3,37] 1 [(38,.p 1 2),(2,.p 0 0),(3,.p 1 0),(37,.v (.slice v512a ((b1m.held ++ ([⟨y213,y363⟩] : List Pce)).length) v512c))] <| kA [12] <| dp 12 1 2 [.slice v512a ((b1m.held ++ ([⟨y213,y363⟩] : List Pce)).length) v512c] rfl ?_
 exact ao (kF 2 0 [2,3]) (by kernel_rfl) (hD7 ⟨(g162,y213,g312,y363,g462,v512a,v512c),hy363⟩)
 refine bc (α := {zz : Nat × Int × Nat × ByteArray × Nat // (fun (g162 : Nat) (y213 : Int) (g312 : Nat) (y363 : ByteArray) (g462 : Nat) => y363 ∈ ([(⟨#[]⟩ : ByteArray),(⟨#[120]⟩ : ByteArray),(⟨#[121,122]⟩ : ByteArray)] : List ByteArray)) zz.1 zz.2.1 zz.2.2.1 zz.2.2.2.1 zz.2.2.2.2}) (fun zz => (fun (g162 : Nat) (y213 : Int) (g312 : Nat) (y363 : ByteArray) (g462 : Nat) => [(28,.v (.slice b1a b1m.held.length b1c)),(36,.v (.slice (some ⟨g462,0,none⟩) 1 1))]) zz.1.1 zz.1.2.1 zz.1.2.2.1 zz.1.2.2.2.1 zz.1.2.2.2.2) [2,3,28,36] (fun _ => []) (fun zz => (fun (g162 : Nat) (y213 : Int) (g312 : Nat) (y363 : ByteArray) (g462 : Nat) => [a9 (aw w B).heap.size 3 1 (.slice (some ⟨g162,0,none⟩) 7 7) (([0,1,20,31,32,(-1),9223372036854775807] : List Int).map az),a9 (aw w B).heap.size 72 2 (.slice (some ⟨g462,0,none⟩) 1 1) (([⟨y213,y363⟩] : List Pce).map pC),a9 (aw w B).heap.size 9 1 (.slice (some ⟨g312,0,none⟩) 3 3) (([(⟨#[]⟩ : ByteArray),(⟨#[120]⟩ : ByteArray),(⟨#[121,122]⟩ : ByteArray)] : List ByteArray).map cX)]) zz.1.1 zz.1.2.1 zz.1.2.2.1 zz.1.2.2.2.1 zz.1.2.2.2.2) 3 (bi 13 1023) ?_ (fun hD5 => ?_)
 rintro ⟨⟨g162,y213,g312,y363,g462⟩,hy363⟩
 dsimp only [List.cons_append,List.nil_append]
 try dsimp only at hy363
 refine kA [10] <| dG 10 rfl (a5 (aq rfl a7)) (aG (e := 72) (K := 2) (bytes := 24) (i := 1) (q := (b1m.held ++ ([⟨y213,y363⟩] : List Pce)).length) (new := ([⟨y213,y363⟩] : List Pce).map pC) (rs' := (b1m.held ++ ([⟨y213,y363⟩] : List Pce)).map pC) rfl rfl rfl rfl (by kernel_rfl) (by kernel_rfl) (by kernel_rfl) rfl (by simp) (by rw [List.map_append]) (by simp) (fun ww hf => (au (hf (a9 (aw w B).heap.size 72 2 (.slice (some ⟨g462,0,none⟩) 1 1) (([⟨y213,y363⟩] : List Pce).map pC)) (by simp)))) (by intro r hr; obtain ⟨x,hx,rfl⟩ := List.mem_map.1 hr; exact ⟨rfl,by simp [pC,Value.oneCell']⟩) (by (try simp only [List.length_map,List.length_append,List.length_cons,List.length_nil,List.length_take,List.length_drop,maxLen]); omega) (by (try simp only [List.length_map,List.length_append,List.length_cons,List.length_nil,List.length_take,List.length_drop,maxLen]); omega)) ?_
 rintro ⟨v512a,v512c⟩
 exact ao (en [1,2,3,4,5,0,6] <| kF 2 0 [2,3,37]) (by kernel_rfl) (hD6 ⟨(g162,y213,g312,y363,g462,v512a,v512c),hy363⟩)
 refine bc (α := {zz : Nat × Int × Nat × ByteArray // (fun (g162 : Nat) (y213 : Int) (g312 : Nat) (y363 : ByteArray) => y363 ∈ ([(⟨#[]⟩ : ByteArray),(⟨#[120]⟩ : ByteArray),(⟨#[121,122]⟩ : ByteArray)] : List ByteArray)) zz.1 zz.2.1 zz.2.2.1 zz.2.2.2}) (fun zz => (fun (g162 : Nat) (y213 : Int) (g312 : Nat) (y363 : ByteArray) => [(28,.v (.slice b1a b1m.held.length b1c)),(31,aI y213),(34,.v (.string y363))]) zz.1.1 zz.1.2.1 zz.1.2.2.1 zz.1.2.2.2) [2,3,28,31,34] (fun _ => []) (fun zz => (fun (g162 : Nat) (y213 : Int) (g312 : Nat) (y363 : ByteArray) => [a9 (aw w B).heap.size 3 1 (.slice (some ⟨g162,0,none⟩) 7 7) (([0,1,20,31,32,(-1),9223372036854775807] : List Int).map az),a9 (aw w B).heap.size 9 1 (.slice (some ⟨g312,0,none⟩) 3 3) (([(⟨#[]⟩ : ByteArray),(⟨#[120]⟩ : ByteArray),(⟨#[121,122]⟩ : ByteArray)] : List ByteArray).map cX)]) zz.1.1 zz.1.2.1 zz.1.2.2.1 zz.1.2.2.2) 5 (bi 13 255) ?_ (fun hD4 => ?_)
 rintro ⟨⟨g162,y213,g312,y363⟩,hy363⟩
 dsimp only [List.cons_append,List.nil_append]
 try dsimp only at hy363
 refine kX 8 (.agg (pceL (⟨y213,y363⟩ : Pce)).toArray) rfl (fun _ _ ww hA => aH [(0,iI y213),(1,.string y363)] hA rfl (by kernel_rfl) (by kernel_rfl) ww) ?_
 refine kA [9] <| dG 9 rfl (a5 (aq rfl a7)) (aQ (e := 72) (K := 2) (bytes := 24) [.agg (pceL (⟨y213,y363⟩ : Pce)).toArray] (rs := ([⟨y213,y363⟩] : List Pce).map pC) rfl rfl) ?_
 intro g462
 exact ao (en [1,2,3,4,5,0,6] <| kF 2 0 [2,3,28,36]) (by kernel_rfl) (hD5 ⟨(g162,y213,g312,y363,g462),hy363⟩)
 refine bc (α := Nat × Int × Nat) (fun zz => (fun (g162 : Nat) (y213 : Int) (g312 : Nat) => [(28,.v (.slice b1a b1m.held.length b1c)),(31,aI y213),(32,aP g),(33,.v (.slice (some ⟨g312,0,none⟩) 3 3))]) zz.1 zz.2.1 zz.2.2) [2,3,28,31,32,33] (fun _ => []) (fun zz => (fun (g162 : Nat) (y213 : Int) (g312 : Nat) => [a9 (aw w B).heap.size 3 1 (.slice (some ⟨g162,0,none⟩) 7 7) (([0,1,20,31,32,(-1),9223372036854775807] : List Int).map az),a9 (aw w B).heap.size 9 1 (.slice (some ⟨g312,0,none⟩) 3 3) (([(⟨#[]⟩ : ByteArray),(⟨#[120]⟩ : ByteArray),(⟨#[121,122]⟩ : ByteArray)] : List ByteArray).map cX)]) zz.1 zz.2.1 zz.2.2) 6 (bi 13 127) ?_ (fun hD3 => ?_)
 rintro ⟨g162,y213,g312⟩
 dsimp only [List.cons_append,List.nil_append]
 refine kA [7] <| fH (φ := ¬ (bz (.slice (some ⟨g312,0,none⟩) 3 3) 1 (([(⟨#[]⟩ : ByteArray),(⟨#[120]⟩ : ByteArray),(⟨#[121,122]⟩ : ByteArray)] : List ByteArray).map cX)).blk g) (fun _ _ _ _ hr => fun hb => hr.2.apart 5 0 (a9 (aw w B).heap.size 9 1 (.slice (some ⟨g312,0,none⟩) 3 3) (([(⟨#[]⟩ : ByteArray),(⟨#[120]⟩ : ByteArray),(⟨#[121,122]⟩ : ByteArray)] : List ByteArray).map cX)) (cF B g A J cap) rfl rfl (by decide) rfl g (bf hb) rfl) (fun hk362 => ?_)
 refine eD 7 50 [gP g,.slice (some ⟨g312,0,none⟩) 3 3] (some 34) 0 rfl rfl hlo (a5 (aq rfl a7)) (l1Pick_c_K hBw hap (fun ww hw hf => (au (hf _ m5))) hk362 (by simp)) ?_
 rintro ⟨y363,hy363⟩
 exact ao (kF 2 0 [2,3,28,31,34]) (by kernel_rfl) (hD4 ⟨(g162,y213,g312,y363),hy363⟩)
 refine bc (α := Nat × Int) (fun zz => (fun (g162 : Nat) (y213 : Int) => [(28,.v (.slice b1a b1m.held.length b1c)),(31,aI y213),(32,aP g)]) zz.1 zz.2) [2,3,28,31,32] (fun _ => []) (fun zz => (fun (g162 : Nat) (y213 : Int) => [a9 (aw w B).heap.size 3 1 (.slice (some ⟨g162,0,none⟩) 7 7) (([0,1,20,31,32,(-1),9223372036854775807] : List Int).map az)]) zz.1 zz.2) 7 (bi 13 63) ?_ (fun hD2 => ?_)
 rintro ⟨g162,y213⟩
 dsimp only [List.cons_append,List.nil_append]
 refine kA [6] <| dG 6 rfl (a5 (aq rfl a7)) (aQ (e := 9) (K := 1) (bytes := 16) [.string (⟨#[]⟩ : ByteArray),.string (⟨#[120]⟩ : ByteArray),.string (⟨#[121,122]⟩ : ByteArray)] (rs := ([(⟨#[]⟩ : ByteArray),(⟨#[120]⟩ : ByteArray),(⟨#[121,122]⟩ : ByteArray)] : List ByteArray).map cX) rfl rfl) ?_
 intro g312
 exact ao (en [1,2,3,4,5,0] <| kF 2 0 [2,3,28,31,32,33]) (by kernel_rfl) (hD3 (g162,y213,g312))
 refine bc (α := Nat × Nat) (fun zz => (fun (g162 : Nat) (g312 : Nat) => [(28,.v (.slice b1a b1m.held.length b1c)),(29,aP g),(30,.v (.slice (some ⟨g162,0,none⟩) 7 7)),(32,aP g),(33,.v (.slice (some ⟨g312,0,none⟩) 3 3))]) zz.1 zz.2) [2,3,28,29,30,32,33] (fun _ => []) (fun zz => (fun (g162 : Nat) (g312 : Nat) => [a9 (aw w B).heap.size 3 1 (.slice (some ⟨g162,0,none⟩) 7 7) (([0,1,20,31,32,(-1),9223372036854775807] : List Int).map az),a9 (aw w B).heap.size 9 1 (.slice (some ⟨g312,0,none⟩) 3 3) (([(⟨#[]⟩ : ByteArray),(⟨#[120]⟩ : ByteArray),(⟨#[121,122]⟩ : ByteArray)] : List ByteArray).map cX)]) zz.1 zz.2) 7 (bi 13 111) ?_ (fun hD8 => ?_)
 rintro ⟨g162,g312⟩
 dsimp only [List.cons_append,List.nil_append]
 refine kA [4] <| fH (φ := ¬ (bz (.slice (some ⟨g162,0,none⟩) 7 7) 1 (([0,1,20,31,32,(-1),9223372036854775807] : List Int).map az)).blk g) (fun _ _ _ _ hr => fun hb => hr.2.apart 4 0 (a9 (aw w B).heap.size 3 1 (.slice (some ⟨g162,0,none⟩) 7 7) (([0,1,20,31,32,(-1),9223372036854775807] : List Int).map az)) (cF B g A J cap) rfl rfl (by decide) rfl g (bf hb) rfl) (fun hk212 => ?_)
 refine eD 4 19 [gP g,.slice (some ⟨g162,0,none⟩) 7 7] (some 31) 0 rfl rfl hlo (a5 (aq rfl a7)) (aL hBw hap (fun ww hw hf => (au (hf _ m4))) hk212 (by simp)) ?_
 rintro ⟨y213,hy213⟩
 exact ao (kF 2 0 [2,3,28,31,32,33]) (by kernel_rfl) (hD3 (g162,y213,g312))
 refine bc (α := Nat) (fun zz => (fun (g162 : Nat) => [(28,.v (.slice b1a b1m.held.length b1c)),(29,aP g),(30,.v (.slice (some ⟨g162,0,none⟩) 7 7)),(32,aP g)]) zz) [2,3,28,29,30,32] (fun _ => []) (fun zz => (fun (g162 : Nat) => [a9 (aw w B).heap.size 3 1 (.slice (some ⟨g162,0,none⟩) 7 7) (([0,1,20,31,32,(-1),9223372036854775807] : List Int).map az)]) zz) 8 (bi 13 47) ?_ (fun hD1 => ?_)
 intro g162
 dsimp only [List.cons_append,List.nil_append]
 refine kA [4,6] ⟨?_,?_⟩
 refine fH (φ := ¬ (bz (.slice (some ⟨g162,0,none⟩) 7 7) 1 (([0,1,20,31,32,(-1),9223372036854775807] : List Int).map az)).blk g) (fun _ _ _ _ hr => fun hb => hr.2.apart 4 0 (a9 (aw w B).heap.size 3 1 (.slice (some ⟨g162,0,none⟩) 7 7) (([0,1,20,31,32,(-1),9223372036854775807] : List Int).map az)) (cF B g A J cap) rfl rfl (by decide) rfl g (bf hb) rfl) (fun hk212 => ?_)
 refine eD 4 19 [gP g,.slice (some ⟨g162,0,none⟩) 7 7] (some 31) 0 rfl rfl hlo (a5 (aq rfl a7)) (aL hBw hap (fun ww hw hf => (au (hf _ m4))) hk212 (by simp)) ?_
 rintro ⟨y213,hy213⟩
 exact ao (kF 2 0 [2,3,28,31,32]) (by kernel_rfl) (hD2 (g162,y213))
 refine dG 6 rfl (a5 (aq rfl a7)) (aQ (e := 9) (K := 1) (bytes := 16) [.string (⟨#[]⟩ : ByteArray),.string (⟨#[120]⟩ : ByteArray),.string (⟨#[121,122]⟩ : ByteArray)] (rs := ([(⟨#[]⟩ : ByteArray),(⟨#[120]⟩ : ByteArray),(⟨#[121,122]⟩ : ByteArray)] : List ByteArray).map cX) rfl rfl) ?_
 intro g312
 exact ao (en [1,2,3,4,5,0] <| kF 2 0 [2,3,28,29,30,32,33]) (by kernel_rfl) (hD8 (g162,g312))
 refine bc (α := Nat) (fun zz => (fun (g312 : Nat) => [(28,.v (.slice b1a b1m.held.length b1c)),(29,aP g),(32,aP g),(33,.v (.slice (some ⟨g312,0,none⟩) 3 3))]) zz) [2,3,28,29,32,33] (fun _ => []) (fun zz => (fun (g312 : Nat) => [a9 (aw w B).heap.size 9 1 (.slice (some ⟨g312,0,none⟩) 3 3) (([(⟨#[]⟩ : ByteArray),(⟨#[120]⟩ : ByteArray),(⟨#[121,122]⟩ : ByteArray)] : List ByteArray).map cX)]) zz) 8 (bi 13 103) ?_ (fun hD9 => ?_)
 intro g312
 dsimp only [List.cons_append,List.nil_append]
 refine kA [3] <| dG 3 rfl (a5 (aq rfl a7)) (aQ (e := 3) (K := 1) (bytes := 8) [iI 0,iI 1,iI 20,iI 31,iI 32,iI (-1),iI 9223372036854775807] (rs := ([0,1,20,31,32,(-1),9223372036854775807] : List Int).map az) rfl rfl) ?_
 intro g162
 exact ao (en [1,2,3,4,0,5] <| kF 2 0 [2,3,28,29,30,32,33]) (by kernel_rfl) (hD8 (g162,g312))
 refine cf (α := Unit) (fun zz => (fun (u_ : Unit) => [(28,.v (.slice b1a b1m.held.length b1c)),(29,aP g),(32,aP g)]) zz) [2,3,28,29,32] 9 (bi 13 39) ?_ (fun hD0 => ?_)
 intro u_
 try dsimp only
 refine kA [3,6] ⟨?_,?_⟩
 refine dG 3 rfl (a5 (aq rfl a7)) (aQ (e := 3) (K := 1) (bytes := 8) [iI 0,iI 1,iI 20,iI 31,iI 32,iI (-1),iI 9223372036854775807] (rs := ([0,1,20,31,32,(-1),9223372036854775807] : List Int).map az) rfl rfl) ?_
 intro g162
 exact ao (en [1,2,3,4,0] <| kF 2 0 [2,3,28,29,30,32]) (by kernel_rfl) (hD1 (g162))
 refine dG 6 rfl (a5 (aq rfl a7)) (aQ (e := 9) (K := 1) (bytes := 16) [.string (⟨#[]⟩ : ByteArray),.string (⟨#[120]⟩ : ByteArray),.string (⟨#[121,122]⟩ : ByteArray)] (rs := ([(⟨#[]⟩ : ByteArray),(⟨#[120]⟩ : ByteArray),(⟨#[121,122]⟩ : ByteArray)] : List ByteArray).map cX) rfl rfl) ?_
 intro g312
 exact ao (en [1,2,3,4,0] <| kF 2 0 [2,3,28,29,32,33]) (by kernel_rfl) (hD9 (g312))
 refine bc (α := {zz : Nat × Int × Nat × ByteArray // (fun (g162 : Nat) (y213 : Int) (g312 : Nat) (y363 : ByteArray) => y363 ∈ ([(⟨#[]⟩ : ByteArray),(⟨#[120]⟩ : ByteArray),(⟨#[121,122]⟩ : ByteArray)] : List ByteArray)) zz.1 zz.2.1 zz.2.2.1 zz.2.2.2}) (fun zz => (fun (g162 : Nat) (y213 : Int) (g312 : Nat) (y363 : ByteArray) => [(28,.v (.slice b1a b1m.held.length b1c)),(35,.v (.agg (pceL (⟨y213,y363⟩ : Pce)).toArray))]) zz.1.1 zz.1.2.1 zz.1.2.2.1 zz.1.2.2.2) [2,3,28,35] (fun _ => []) (fun zz => (fun (g162 : Nat) (y213 : Int) (g312 : Nat) (y363 : ByteArray) => [a9 (aw w B).heap.size 3 1 (.slice (some ⟨g162,0,none⟩) 7 7) (([0,1,20,31,32,(-1),9223372036854775807] : List Int).map az),a9 (aw w B).heap.size 9 1 (.slice (some ⟨g312,0,none⟩) 3 3) (([(⟨#[]⟩ : ByteArray),(⟨#[120]⟩ : ByteArray),(⟨#[121,122]⟩ : ByteArray)] : List ByteArray).map cX)]) zz.1.1 zz.1.2.1 zz.1.2.2.1 zz.1.2.2.2) 4 (bi 13 511) ?_ (fun hD14 => ?_)
 rintro ⟨⟨g162,y213,g312,y363⟩,hy363⟩
 dsimp only [List.cons_append,List.nil_append]
 try dsimp only at hy363
 refine kA [9] <| dG 9 rfl (a5 (aq rfl a7)) (aQ (e := 72) (K := 2) (bytes := 24) [.agg (pceL (⟨y213,y363⟩ : Pce)).toArray] (rs := ([⟨y213,y363⟩] : List Pce).map pC) rfl rfl) ?_
 intro g462
 exact ao (en [1,2,3,4,5,0,6] <| kF 2 0 [2,3,28,36]) (by kernel_rfl) (hD5 ⟨(g162,y213,g312,y363,g462),hy363⟩)
 refine bc (α := {zz : Nat × Int × Nat × ByteArray × Nat // (fun (g162 : Nat) (y213 : Int) (g312 : Nat) (y363 : ByteArray) (g462 : Nat) => y363 ∈ ([(⟨#[]⟩ : ByteArray),(⟨#[120]⟩ : ByteArray),(⟨#[121,122]⟩ : ByteArray)] : List ByteArray)) zz.1 zz.2.1 zz.2.2.1 zz.2.2.2.1 zz.2.2.2.2}) (fun zz => (fun (g162 : Nat) (y213 : Int) (g312 : Nat) (y363 : ByteArray) (g462 : Nat) => [(27,.p 1 2),(36,.v (.slice (some ⟨g462,0,none⟩) 1 1))]) zz.1.1 zz.1.2.1 zz.1.2.2.1 zz.1.2.2.2.1 zz.1.2.2.2.2) [2,3,27,36] (fun _ => []) (fun zz => (fun (g162 : Nat) (y213 : Int) (g312 : Nat) (y363 : ByteArray) (g462 : Nat) => [a9 (aw w B).heap.size 3 1 (.slice (some ⟨g162,0,none⟩) 7 7) (([0,1,20,31,32,(-1),9223372036854775807] : List Int).map az),a9 (aw w B).heap.size 72 2 (.slice (some ⟨g462,0,none⟩) 1 1) (([⟨y213,y363⟩] : List Pce).map pC),a9 (aw w B).heap.size 9 1 (.slice (some ⟨g312,0,none⟩) 3 3) (([(⟨#[]⟩ : ByteArray),(⟨#[120]⟩ : ByteArray),(⟨#[121,122]⟩ : ByteArray)] : List ByteArray).map cX)]) zz.1.1 zz.1.2.1 zz.1.2.2.1 zz.1.2.2.2.1 zz.1.2.2.2.2) 4 (bi 13 1021) ?_ (fun hD15 => ?_)
 rintro ⟨⟨g162,y213,g312,y363,g462⟩,hy363⟩
 dsimp only [List.cons_append,List.nil_append]
 try dsimp only at hy363
 refine kA [1] <| e6 1 (.v (.slice b1a b1m.held.length b1c)) rfl ?_
 exact ao (kF 2 0 [2,3,28,36]) (by kernel_rfl) (hD5 ⟨(g162,y213,g312,y363,g462),hy363⟩)
 refine bc (α := {zz : Nat × Int × Nat × ByteArray // (fun (g162 : Nat) (y213 : Int) (g312 : Nat) (y363 : ByteArray) => y363 ∈ ([(⟨#[]⟩ : ByteArray),(⟨#[120]⟩ : ByteArray),(⟨#[121,122]⟩ : ByteArray)] : List ByteArray)) zz.1 zz.2.1 zz.2.2.1 zz.2.2.2}) (fun zz => (fun (g162 : Nat) (y213 : Int) (g312 : Nat) (y363 : ByteArray) => [(27,.p 1 2),(31,aI y213),(34,.v (.string y363))]) zz.1.1 zz.1.2.1 zz.1.2.2.1 zz.1.2.2.2) [2,3,27,31,34] (fun _ => []) (fun zz => (fun (g162 : Nat) (y213 : Int) (g312 : Nat) (y363 : ByteArray) => [a9 (aw w B).heap.size 3 1 (.slice (some ⟨g162,0,none⟩) 7 7) (([0,1,20,31,32,(-1),9223372036854775807] : List Int).map az),a9 (aw w B).heap.size 9 1 (.slice (some ⟨g312,0,none⟩) 3 3) (([(⟨#[]⟩ : ByteArray),(⟨#[120]⟩ : ByteArray),(⟨#[121,122]⟩ : ByteArray)] : List ByteArray).map cX)]) zz.1.1 zz.1.2.1 zz.1.2.2.1 zz.1.2.2.2) 6 (bi 13 253) ?_ (fun hD13 => ?_)
 rintro ⟨⟨g162,y213,g312,y363⟩,hy363⟩
 dsimp only [List.cons_append,List.nil_append]
 try dsimp only at hy363
 refine kX 8 (.agg (pceL (⟨y213,y363⟩ : Pce)).toArray) rfl (fun _ _ ww hA => aH [(0,iI y213),(1,.string y363)] hA rfl (by kernel_rfl) (by kernel_rfl) ww) ?_
 refine kA [1,9] ⟨?_,?_⟩
 refine e6 1 (.v (.slice b1a b1m.held.length b1c)) rfl ?_
 exact ao (kF 2 0 [2,3,28,35]) (by kernel_rfl) (hD14 ⟨(g162,y213,g312,y363),hy363⟩)
 refine dG 9 rfl (a5 (aq rfl a7)) (aQ (e := 72) (K := 2) (bytes := 24) [.agg (pceL (⟨y213,y363⟩ : Pce)).toArray] (rs := ([⟨y213,y363⟩] : List Pce).map pC) rfl rfl) ?_
 intro g462
 exact ao (en [1,2,3,4,5,0,6] <| kF 2 0 [2,3,27,36]) (by kernel_rfl) (hD15 ⟨(g162,y213,g312,y363,g462),hy363⟩)
 refine bc (α := Nat × Int × Nat) (fun zz => (fun (g162 : Nat) (y213 : Int) (g312 : Nat) => [(27,.p 1 2),(31,aI y213),(32,aP g),(33,.v (.slice (some ⟨g312,0,none⟩) 3 3))]) zz.1 zz.2.1 zz.2.2) [2,3,27,31,32,33] (fun _ => []) (fun zz => (fun (g162 : Nat) (y213 : Int) (g312 : Nat) => [a9 (aw w B).heap.size 3 1 (.slice (some ⟨g162,0,none⟩) 7 7) (([0,1,20,31,32,(-1),9223372036854775807] : List Int).map az),a9 (aw w B).heap.size 9 1 (.slice (some ⟨g312,0,none⟩) 3 3) (([(⟨#[]⟩ : ByteArray),(⟨#[120]⟩ : ByteArray),(⟨#[121,122]⟩ : ByteArray)] : List ByteArray).map cX)]) zz.1 zz.2.1 zz.2.2) 7 (bi 13 125) ?_ (fun hD12 => ?_)
 rintro ⟨g162,y213,g312⟩
 dsimp only [List.cons_append,List.nil_append]
 refine kA [1,7] ⟨?_,?_⟩
 refine e6 1 (.v (.slice b1a b1m.held.length b1c)) rfl ?_
 exact ao (kF 2 0 [2,3,28,31,32,33]) (by kernel_rfl) (hD3 (g162,y213,g312))
 refine fH (φ := ¬ (bz (.slice (some ⟨g312,0,none⟩) 3 3) 1 (([(⟨#[]⟩ : ByteArray),(⟨#[120]⟩ : ByteArray),(⟨#[121,122]⟩ : ByteArray)] : List ByteArray).map cX)).blk g) (fun _ _ _ _ hr => fun hb => hr.2.apart 5 0 (a9 (aw w B).heap.size 9 1 (.slice (some ⟨g312,0,none⟩) 3 3) (([(⟨#[]⟩ : ByteArray),(⟨#[120]⟩ : ByteArray),(⟨#[121,122]⟩ : ByteArray)] : List ByteArray).map cX)) (cF B g A J cap) rfl rfl (by decide) rfl g (bf hb) rfl) (fun hk362 => ?_)
 refine eD 7 50 [gP g,.slice (some ⟨g312,0,none⟩) 3 3] (some 34) 0 rfl rfl hlo (a5 (aq rfl a7)) (l1Pick_c_K hBw hap (fun ww hw hf => (au (hf _ m5))) hk362 (by simp)) ?_
 rintro ⟨y363,hy363⟩
 exact ao (kF 2 0 [2,3,27,31,34]) (by kernel_rfl) (hD13 ⟨(g162,y213,g312,y363),hy363⟩)
 refine bc (α := Nat × Int) (fun zz => (fun (g162 : Nat) (y213 : Int) => [(27,.p 1 2),(31,aI y213),(32,aP g)]) zz.1 zz.2) [2,3,27,31,32] (fun _ => []) (fun zz => (fun (g162 : Nat) (y213 : Int) => [a9 (aw w B).heap.size 3 1 (.slice (some ⟨g162,0,none⟩) 7 7) (([0,1,20,31,32,(-1),9223372036854775807] : List Int).map az)]) zz.1 zz.2) 8 (bi 13 61) ?_ (fun hD11 => ?_)
 rintro ⟨g162,y213⟩
 dsimp only [List.cons_append,List.nil_append]
 refine kA [1,6] ⟨?_,?_⟩
 refine e6 1 (.v (.slice b1a b1m.held.length b1c)) rfl ?_
 exact ao (kF 2 0 [2,3,28,31,32]) (by kernel_rfl) (hD2 (g162,y213))
 refine dG 6 rfl (a5 (aq rfl a7)) (aQ (e := 9) (K := 1) (bytes := 16) [.string (⟨#[]⟩ : ByteArray),.string (⟨#[120]⟩ : ByteArray),.string (⟨#[121,122]⟩ : ByteArray)] (rs := ([(⟨#[]⟩ : ByteArray),(⟨#[120]⟩ : ByteArray),(⟨#[121,122]⟩ : ByteArray)] : List ByteArray).map cX) rfl rfl) ?_
 intro g312
 exact ao (en [1,2,3,4,5,0] <| kF 2 0 [2,3,27,31,32,33]) (by kernel_rfl) (hD12 (g162,y213,g312))
 refine bc (α := Nat × Nat) (fun zz => (fun (g162 : Nat) (g312 : Nat) => [(27,.p 1 2),(29,aP g),(30,.v (.slice (some ⟨g162,0,none⟩) 7 7)),(32,aP g),(33,.v (.slice (some ⟨g312,0,none⟩) 3 3))]) zz.1 zz.2) [2,3,27,29,30,32,33] (fun _ => []) (fun zz => (fun (g162 : Nat) (g312 : Nat) => [a9 (aw w B).heap.size 3 1 (.slice (some ⟨g162,0,none⟩) 7 7) (([0,1,20,31,32,(-1),9223372036854775807] : List Int).map az),a9 (aw w B).heap.size 9 1 (.slice (some ⟨g312,0,none⟩) 3 3) (([(⟨#[]⟩ : ByteArray),(⟨#[120]⟩ : ByteArray),(⟨#[121,122]⟩ : ByteArray)] : List ByteArray).map cX)]) zz.1 zz.2) 8 (bi 13 109) ?_ (fun hD16 => ?_)
 rintro ⟨g162,g312⟩
 dsimp only [List.cons_append,List.nil_append]
 refine kA [1,4] ⟨?_,?_⟩
 refine e6 1 (.v (.slice b1a b1m.held.length b1c)) rfl ?_
 exact ao (kF 2 0 [2,3,28,29,30,32,33]) (by kernel_rfl) (hD8 (g162,g312))
 refine fH (φ := ¬ (bz (.slice (some ⟨g162,0,none⟩) 7 7) 1 (([0,1,20,31,32,(-1),9223372036854775807] : List Int).map az)).blk g) (fun _ _ _ _ hr => fun hb => hr.2.apart 4 0 (a9 (aw w B).heap.size 3 1 (.slice (some ⟨g162,0,none⟩) 7 7) (([0,1,20,31,32,(-1),9223372036854775807] : List Int).map az)) (cF B g A J cap) rfl rfl (by decide) rfl g (bf hb) rfl) (fun hk212 => ?_)
 refine eD 4 19 [gP g,.slice (some ⟨g162,0,none⟩) 7 7] (some 31) 0 rfl rfl hlo (a5 (aq rfl a7)) (aL hBw hap (fun ww hw hf => (au (hf _ m4))) hk212 (by simp)) ?_
 rintro ⟨y213,hy213⟩
 exact ao (kF 2 0 [2,3,27,31,32,33]) (by kernel_rfl) (hD12 (g162,y213,g312))
 refine bc (α := Nat) (fun zz => (fun (g162 : Nat) => [(27,.p 1 2),(29,aP g),(30,.v (.slice (some ⟨g162,0,none⟩) 7 7)),(32,aP g)]) zz) [2,3,27,29,30,32] (fun _ => []) (fun zz => (fun (g162 : Nat) => [a9 (aw w B).heap.size 3 1 (.slice (some ⟨g162,0,none⟩) 7 7) (([0,1,20,31,32,(-1),9223372036854775807] : List Int).map az)]) zz) 9 (bi 13 45) ?_ (fun hD10 => ?_)
 intro g162
 dsimp only [List.cons_append,List.nil_append]
 refine kA [1,4,6] ⟨?_,?_,?_⟩
 refine e6 1 (.v (.slice b1a b1m.held.length b1c)) rfl ?_
 exact ao (kF 2 0 [2,3,28,29,30,32]) (by kernel_rfl) (hD1 (g162))
 refine fH (φ := ¬ (bz (.slice (some ⟨g162,0,none⟩) 7 7) 1 (([0,1,20,31,32,(-1),9223372036854775807] : List Int).map az)).blk g) (fun _ _ _ _ hr => fun hb => hr.2.apart 4 0 (a9 (aw w B).heap.size 3 1 (.slice (some ⟨g162,0,none⟩) 7 7) (([0,1,20,31,32,(-1),9223372036854775807] : List Int).map az)) (cF B g A J cap) rfl rfl (by decide) rfl g (bf hb) rfl) (fun hk212 => ?_)
 refine eD 4 19 [gP g,.slice (some ⟨g162,0,none⟩) 7 7] (some 31) 0 rfl rfl hlo (a5 (aq rfl a7)) (aL hBw hap (fun ww hw hf => (au (hf _ m4))) hk212 (by simp)) ?_
 rintro ⟨y213,hy213⟩
 exact ao (kF 2 0 [2,3,27,31,32]) (by kernel_rfl) (hD11 (g162,y213))
 refine dG 6 rfl (a5 (aq rfl a7)) (aQ (e := 9) (K := 1) (bytes := 16) [.string (⟨#[]⟩ : ByteArray),.string (⟨#[120]⟩ : ByteArray),.string (⟨#[121,122]⟩ : ByteArray)] (rs := ([(⟨#[]⟩ : ByteArray),(⟨#[120]⟩ : ByteArray),(⟨#[121,122]⟩ : ByteArray)] : List ByteArray).map cX) rfl rfl) ?_
 intro g312
 exact ao (en [1,2,3,4,5,0] <| kF 2 0 [2,3,27,29,30,32,33]) (by kernel_rfl) (hD16 (g162,g312))
 refine bc (α := Nat) (fun zz => (fun (g312 : Nat) => [(27,.p 1 2),(29,aP g),(32,aP g),(33,.v (.slice (some ⟨g312,0,none⟩) 3 3))]) zz) [2,3,27,29,32,33] (fun _ => []) (fun zz => (fun (g312 : Nat) => [a9 (aw w B).heap.size 9 1 (.slice (some ⟨g312,0,none⟩) 3 3) (([(⟨#[]⟩ : ByteArray),(⟨#[120]⟩ : ByteArray),(⟨#[121,122]⟩ : ByteArray)] : List ByteArray).map cX)]) zz) 9 (bi 13 101) ?_ (fun hD17 => ?_)
 intro g312
 dsimp only [List.cons_append,List.nil_append]
 refine kA [1,3] ⟨?_,?_⟩
 refine e6 1 (.v (.slice b1a b1m.held.length b1c)) rfl ?_
 exact ao (kF 2 0 [2,3,28,29,32,33]) (by kernel_rfl) (hD9 (g312))
 refine dG 3 rfl (a5 (aq rfl a7)) (aQ (e := 3) (K := 1) (bytes := 8) [iI 0,iI 1,iI 20,iI 31,iI 32,iI (-1),iI 9223372036854775807] (rs := ([0,1,20,31,32,(-1),9223372036854775807] : List Int).map az) rfl rfl) ?_
 intro g162
 exact ao (en [1,2,3,4,0,5] <| kF 2 0 [2,3,27,29,30,32,33]) (by kernel_rfl) (hD16 (g162,g312))
 refine cK [0,2,5] [32,29,27,2,3] 10 [(32,aP g),(29,aP g),(27,.p 1 2),(2,.p 0 0),(3,.p 1 0)] <| kA [1,3,6] ⟨?_,?_,?_⟩
 refine e6 1 (.v (.slice b1a b1m.held.length b1c)) rfl ?_
 exact ao (kF 2 0 [2,3,28,29,32]) (by kernel_rfl) (hD0 ())
 refine dG 3 rfl (a5 (aq rfl a7)) (aQ (e := 3) (K := 1) (bytes := 8) [iI 0,iI 1,iI 20,iI 31,iI 32,iI (-1),iI 9223372036854775807] (rs := ([0,1,20,31,32,(-1),9223372036854775807] : List Int).map az) rfl rfl) ?_
 intro g162
 exact ao (en [1,2,3,4,0] <| kF 2 0 [2,3,27,29,30,32]) (by kernel_rfl) (hD10 (g162))
 refine dG 6 rfl (a5 (aq rfl a7)) (aQ (e := 9) (K := 1) (bytes := 16) [.string (⟨#[]⟩ : ByteArray),.string (⟨#[120]⟩ : ByteArray),.string (⟨#[121,122]⟩ : ByteArray)] (rs := ([(⟨#[]⟩ : ByteArray),(⟨#[120]⟩ : ByteArray),(⟨#[121,122]⟩ : ByteArray)] : List ByteArray).map cX) rfl rfl) ?_
 intro g312
 exact ao (en [1,2,3,4,0] <| kF 2 0 [2,3,27,29,32,33]) (by kernel_rfl) (hD17 (g312))
 have h10p := cI h10
 refine kQ <| aU [0,2,3,39] [(39,aB (y2 == 4))] <| kC (y2 == 4) (fun h674 => ?_) (fun h674 => ?_)
 have h674p := cN h674
 refine kG <| d2 1 [2,3,41] [(41,aP g)] 16 [gP g,iI 3] (some 42) 0 rfl rfl hlo (av hBw hap) ?_
 rintro ⟨y675,hy675⟩
 obtain ⟨hy6750,hy6751⟩ := hy675
 refine em 1 [2,3,43] [(2,.p 0 0),(3,.p 1 0),(43,aI (K6.wrap (31 + y675)))] 48 [iI (K6.wrap (31 + y675))] (some 44) rfl (br fun ww hf => l5Long_c (K6.wrap (31 + y675)) ww (by first | omega | (rw [al (by omega) (by omega)]; omega))) ?_
 intro _
 refine kRB 2 [2,3] [(2,.p 0 0),(3,.p 1 0)] [⟨46,eV⟩,⟨46,ab { b1m with data := ai (List.replicate ((K6.wrap (31 + y675))).toNat 0) } (.slice b1a b1m.held.length b1c)⟩] <| xl_eq (st' := ⟨[(2,.p 0 0),(3,.p 1 0)],[⟨46,eV⟩,⟨46,ab { b1m with data := ai (List.replicate ((31 + y675)).toNat 0) } (.slice b1a b1m.held.length b1c)⟩],[],[cF B g A J cap,a9 (aw w B).heap.size 72 2 (.slice b1a b1m.held.length b1c) (b1m.held.map pC),sQ A J cap,bd w (fun b => b = g)]⟩) (by rw [show (K6.wrap (31 + y675)) = (31 + y675) from al (by omega) (by omega)] <;> rfl) ?_
 refine aU [2,3] [] ?_
 exact ⟨⟨({ b1m with data := ai (List.replicate ((31 + y675)).toNat 0) },b1a,b1c),⟨Nat.le_trans hb1.1 (by decide),hb1.2.1,(by show (ai _).size ≤ 65; rw [cU,List.length_replicate]; omega)⟩⟩,en [1,0,2,3] <| kF 2 0 [2,3]⟩
 have h674p := cI h674
 refine kK ?_
 exact ⟨⟨(b1m,b1a,b1c),⟨Nat.le_trans hb1.1 (by decide),hb1.2.1,hb1.2.2⟩⟩,en [1,0,2,3] <| kF 2 0 [2,3]⟩
 rintro ⟨⟨q,A3,c3⟩,hq⟩
 try dsimp only
 try dsimp only at hq
 refine kQ <| ba [2] [(2,.p 0 0)] 0 ⟨46,ab q (.slice A3 q.held.length c3)⟩ <| kR ?_
 exact ⟨[.agg (ab q (.slice A3 q.held.length c3)).toArray],by kernel_rfl,fun w' hb hf ha => ⟨⟨(q,A3,c3),hq⟩,rfl,hf (cF B g A J cap) (by simp),bv (hf (a9 (aw w B).heap.size 72 2 (.slice A3 q.held.length c3) (q.held.map pC)) (by simp)) (aF ha (i := 0) (j := 1) (k := 3) rfl rfl rfl rfl (by decide) (by decide)),hgl,ar (hf (bd w (fun b => b = g)) (by simp)) hb rfl rfl rfl⟩⟩
end Go.Proofs.Ytccijpdjfelbmaa
