/- Contracts that this law needs, part 1. -/
import Derived.Test.YtfidgfddgmppdaaYW
import Derived.Test.YtfidgfddgmppdaaA5
import Derived.Test.YtfidgfddgmppdaaG1
import Derived.Test.YtfidgfddgmppdaaYD
import Derived.Test.YtfidgfddgmppdaaG3
import Derived.Test.YtfidgfddgmppdaaA2
namespace Go.Proofs.Ytfidgfddgmppdaa
open Go.RowKit
set_option linter.unusedVariables false
set_option linter.unusedSimpArgs false
set_option maxRecDepth 100000
set_option maxHeartbeats 2000000
abbrev aI (x : Int) : AV := .v (.int .i64 x)
abbrev aB (x : Bool) : AV := .v (.bool x)
abbrev iI (x : Int) : Value := .int .i64 x
abbrev cS (a : Option Addr) (c : Con) (n : Nat) : Value := .slice a c.r.held.length n
abbrev cH (a : Option Addr) (c : Con) (n : Nat) : Fact := a9 (cS a c n) 2 (c.r.held.map pC)
abbrev K6 : IntKind := .i64


theorem ysSameReceiver_c (a : Rcv) (a_heldV : Value) (b : Rcv) (b_heldV : Value) (w : World) (hl_a_heldV : Sl w a_heldV 2 (a.held.map pC)) (hl_b_heldV : Sl w b_heldV 2 (b.held.map pC))  : Calls Try.prog 99 #[.agg (cl a a_heldV).toArray, .agg (cl b b_heldV).toArray] w fun e w' => e = .returned (.bool (au a b)) ∧ Below w.heap.size w w' := by
 obtain ⟨Aah,Cah,hvah⟩ := hl_a_heldV.form
 rw [List.length_map] at hvah; subst hvah
 have hnah := hl_a_heldV.len; rw [List.length_map] at hnah
 have hqah := Sl.capLe hl_a_heldV
 obtain ⟨Abh,Cbh,hvbh⟩ := hl_b_heldV.form
 rw [List.length_map] at hvbh; subst hvbh
 have hnbh := hl_b_heldV.len; rw [List.length_map] at hnbh
 have hqbh := Sl.capLe hl_b_heldV
 refine ad (args := [.agg (cl a (.slice Aah a.held.length Cah)).toArray,.agg (cl b (.slice Abh b.held.length Cbh)).toArray]) (fn := Try.f99) [a9 (.slice Aah a.held.length Cah) 2 (a.held.map pC),a9 (.slice Abh b.held.length Cbh) 2 (b.held.map pC)] Try.func99 rfl Try.ntmps99 rfl (by simp only [List.mem_cons,List.not_mem_nil,or_false,forall_eq_or_imp,forall_eq]; exact ⟨⟨rfl,hl_a_heldV⟩,⟨rfl,hl_b_heldV⟩⟩) ?_
 refine kQ <| ct [2,3] ⟨[(2,.p 0 0),(3,.p 1 0)],[⟨106,cl a (.slice Aah a.held.length Cah)⟩,⟨106,cl b (.slice Abh b.held.length Cbh)⟩],[],[a9 (.slice Aah a.held.length Cah) 2 (a.held.map pC),a9 (.slice Abh b.held.length Cbh) 2 (b.held.map pC)]⟩ <| kS <| kS <| cn ⟨[(2,.p 0 0),(3,.p 1 0),(40,aB ((a.next != b.next) || ((!(a.data.toList == b.data.toList)) || ((a.fin != b.fin) || ((!(a.done == b.done)) || (((a.held.length : Nat) : Int) != ((b.held.length : Nat) : Int)))))))],[⟨106,cl a (.slice Aah a.held.length Cah)⟩,⟨106,cl b (.slice Abh b.held.length Cbh)⟩],[],[a9 (.slice Aah a.held.length Cah) 2 (a.held.map pC),a9 (.slice Abh b.held.length Cbh) 2 (b.held.map pC)]⟩ ?_ ?_
 refine kG <| co 6 [2,3,11] [(2,.p 0 0),(3,.p 1 0),(11,aB (a.next != b.next))] <| kP 11 (a.next != b.next) (fun h1 => ?_) (fun h1 => ?_)
 have h1p := neT h1
 refine aS [2,3,40] [(2,.p 0 0),(3,.p 1 0),(40,aB true)] ?_
 show Wk _ _
 try rw [h1]
 exact kF 2 0 [2,3,40]
 have h1p := neF h1
 refine co 7 [2,3,18] [(2,.p 0 0),(3,.p 1 0),(18,aB (!(a.data.toList == b.data.toList)))] <| kP 18 (!(a.data.toList == b.data.toList)) (fun h2 => ?_) (fun h2 => ?_)
 have h2n := not_t h2
 have h2np := h2n; simp only [beq_iff_eq,bne_iff_ne,beq_eq_false_iff_ne,bne_eq_false_iff_eq,ne_eq,ch] at h2np
 refine aS [2,3,40] [(2,.p 0 0),(3,.p 1 0),(40,aB true)] ?_
 show Wk _ _
 try rw [h1]
 try rw [h2]
 exact kF 2 0 [2,3,40]
 have h2n := not_f h2
 have h2np := h2n; simp only [beq_iff_eq,bne_iff_ne,beq_eq_false_iff_ne,bne_eq_false_iff_eq,ne_eq,ch] at h2np
 refine co 7 [2,3,25] [(2,.p 0 0),(3,.p 1 0),(25,aB (a.fin != b.fin))] <| kP 25 (a.fin != b.fin) (fun h3 => ?_) (fun h3 => ?_)
 have h3p := neT h3
 refine aS [2,3,40] [(2,.p 0 0),(3,.p 1 0),(40,aB true)] ?_
 show Wk _ _
 try rw [h1]
 try rw [h2]
 try rw [h3]
 exact kF 2 0 [2,3,40]
 have h3p := neF h3
 refine co 7 [2,3,32] [(2,.p 0 0),(3,.p 1 0),(32,aB (!(a.done == b.done)))] <| kP 32 (!(a.done == b.done)) (fun h4 => ?_) (fun h4 => ?_)
 have h4n := not_t h4
 have h4np := eqF h4n
 refine aS [2,3,40] [(2,.p 0 0),(3,.p 1 0),(40,aB true)] ?_
 show Wk _ _
 try rw [h1]
 try rw [h2]
 try rw [h3]
 try rw [h4]
 exact kF 2 0 [2,3,40]
 have h4n := not_f h4
 have h4np := eqT h4n
 refine aS [2,3,40] [(2,.p 0 0),(3,.p 1 0),(40,aB (((a.held.length : Nat) : Int) != ((b.held.length : Nat) : Int)))] ?_
 show Wk _ _
 try rw [h1]
 try rw [h2]
 try rw [h3]
 try rw [h4]
 exact kF 2 0 [2,3,40]
 refine kC ((a.next != b.next) || ((!(a.data.toList == b.data.toList)) || ((a.fin != b.fin) || ((!(a.done == b.done)) || (((a.held.length : Nat) : Int) != ((b.held.length : Nat) : Int)))))) (fun h5 => ?_) (fun h5 => ?_)
 refine kQ <| aS [4] [(4,aB false)] <| kR ?_
 exact ⟨[.bool false],by kernel_rfl,fun w' hb hf => ⟨am (show (false : Bool) = au a b from by first | rfl | (simp [au, *]; done) | grind [au,ay]),hb⟩⟩
 have h5l := or_l h5
 have h5lp := neF h5l
 have h5r := or_r h5
 have h5rl := or_l h5r
 have h5rln := not_f h5rl
 have h5rlnp := h5rln; simp only [beq_iff_eq,bne_iff_ne,beq_eq_false_iff_ne,bne_eq_false_iff_eq,ne_eq,ch] at h5rlnp
 have h5rr := or_r h5r
 have h5rrl := or_l h5rr
 have h5rrlp := neF h5rrl
 have h5rrr := or_r h5rr
 have h5rrrl := or_l h5rrr
 have h5rrrln := not_f h5rrrl
 have h5rrrlnp := eqT h5rrrln
 have h5rrrr := or_r h5rrr
 have h5rrrrp := neF h5rrrr
 refine kK <| kS <| kQ <| aS [2,3,5] [(2,.p 0 0),(3,.p 1 0),(5,aI 0)] ?_
 refine aa ?_
 have hlen : a.held.length = b.held.length := by omega
 refine bd (α := {x : Nat // (fun (k : Nat) => k ≤ a.held.length ∧ ∀ (i : Nat) (x y : Pce),i < k → a.held[i]? = some x → b.held[i]? = some y → bK x y = true) x}) (fun x => (fun (k : Nat) => (⟨[(2,.p 0 0),(3,.p 1 0),(5,aI (k : Int))],[⟨106,cl a (.slice Aah a.held.length Cah)⟩,⟨106,cl b (.slice Abh b.held.length Cbh)⟩],[],[a9 (.slice Aah a.held.length Cah) 2 (a.held.map pC),a9 (.slice Abh b.held.length Cbh) 2 (b.held.map pC)]⟩ : St)) x.1) (fun x => a.held.length - x.1) ⟨(0),⟨Nat.zero_le _,fun i x y hi => by omega⟩⟩ (kF 2 0 [2,3,5]) ?_
 rintro ⟨k,hk,HK⟩
 try dsimp only
 try dsimp only at hk HK
 refine kS <| kQ <| aS [2,3,5,45] [(2,.p 0 0),(3,.p 1 0),(5,aI (k : Int)),(45,aB (decide ((k : Int) < ((a.held.length : Nat) : Int))))] <| kC (decide ((k : Int) < ((a.held.length : Nat) : Int))) (fun h6 => ?_) (fun h6 => ?_)
 have h6p := of_decide_eq_true h6
 have hlt : k < a.held.length := by simpa using h6
 obtain ⟨x,hx⟩ : ∃ x,a.held[k]? = some x := ⟨_,List.getElem?_eq_getElem hlt⟩
 obtain ⟨y,hy⟩ : ∃ y,b.held[k]? = some y := ⟨_,List.getElem?_eq_getElem (by omega)⟩
 refine kK <| kS <| aa <| kS <| cw ?_
 refine bj (K := 2) (j := k) [iI x.off,.string x.text] (a9 (.slice Aah a.held.length Cah) 2 (a.held.map pC)) (fun _ _ h => h) (by simp) (fun w h => h) (fun b h => h) (by simp only [List.getElem?_map,hx]; rfl) (fun bq7 offq7 hAq7 => ?_)
 refine bj (K := 2) (j := k) [iI y.off,.string y.text] (a9 (.slice Abh b.held.length Cbh) 2 (b.held.map pC)) (fun _ _ h => h) (by simp) (fun w h => h) (fun b h => h) (by simp only [List.getElem?_map,hy]; rfl) (fun bq8 offq8 hAq8 => ?_)
 refine bg [] (by kernel_rfl) (fun ρ σ hq9 => ?_)
 refine kTS [0,1,2,5,6,7] [55,54,50,49,2,3,5] 5 [(55,aI (k : Int)),(54,.v (.slice Abh b.held.length Cbh)),(50,aI (k : Int)),(49,.v (.slice Aah a.held.length Cah)),(2,.p 0 0),(3,.p 1 0),(5,aI (k : Int))] <| aA (kd := .i64) (T := 104) (e := 161) (K := 2) (j := k) (A := Aah) (len := a.held.length) (cap := Cah) 3 0 _ rfl (by kernel_rfl) (by kernel_rfl) (by kernel_rfl) (fun _ _ h => h) (by kernel_rfl) rfl rfl (by kernel_rfl) (by kernel_rfl) (by kernel_rfl) (by kernel_rfl) hlt hAq7 hq9.1.2 (by kernel_rfl) rfl ?_
 refine kTS [4] [52,55,54,2,3,5] 3 [(52,.v (.agg (pceL x).toArray)),(55,aI (k : Int)),(54,.v (.slice Abh b.held.length Cbh)),(2,.p 0 0),(3,.p 1 0),(5,aI (k : Int))] <| aA (kd := .i64) (T := 104) (e := 161) (K := 2) (j := k) (A := Abh) (len := b.held.length) (cap := Cbh) 8 1 _ rfl (by kernel_rfl) (by kernel_rfl) (by kernel_rfl) (fun _ _ h => h) (by kernel_rfl) rfl rfl (by kernel_rfl) (by kernel_rfl) (by kernel_rfl) (by kernel_rfl) (by omega) hAq8 hq9.2 (by kernel_rfl) rfl ?_
 refine kTS [9] [57,52,2,3,5] 1 [(57,.v (.agg (pceL y).toArray)),(52,.v (.agg (pceL x).toArray)),(2,.p 0 0),(3,.p 1 0),(5,aI (k : Int))] <| kX 10 (.bool (!bK x y)) rfl (fun _ _ ww hA => bU hA rfl (by kernel_rfl) (by kernel_rfl) (bX (by kernel_rfl) (run_neq_PCE x.off x.text y.off y.text ww))) ?_
 refine kZ <| kC (!bK x y) (fun h10 => ?_) (fun h10 => ?_)
 have hno := bH hx hy (by simpa using h10)
 refine kQ <| aS [4] [(4,aB false)] <| kR ?_
 exact ⟨[.bool false],by kernel_rfl,fun w' hb hf => ⟨am (show (false : Bool) = au a b from by first | rfl | (simp [au, *]; done) | grind [au,ay]),hb⟩⟩
 have hye : bK x y = true := by simpa using h10
 refine kK <| kG <| co 3 [2,3,5] [(2,.p 0 0),(3,.p 1 0),(5,aI (K6.wrap ((k : Int) + 1)))] <| xl_eqS (t' := [(2,.p 0 0),(3,.p 1 0),(5,aI ((k : Int) + 1))]) (by rw [show (K6.wrap ((k : Int) + 1)) = ((k : Int) + 1) from bf (by omega) (by omega)]) ?_
 refine aS [2,3,5] [(2,.p 0 0),(3,.p 1 0),(5,aI ((k : Int) + 1))] ?_
 exact ⟨⟨(k + 1),⟨by omega,cx hx hy hye HK⟩⟩,kF 2 0 [2,3,5],by show a.held.length - (k + 1) < a.held.length - k; omega⟩
 have h6p := of_decide_eq_false h6
 have hge : k = a.held.length := by simp at h6; omega
 have hall := bm hge hlen HK
 refine bD <| kQ <| aS [4] [(4,aB true)] <| kR ?_
 exact ⟨[.bool true],by kernel_rfl,fun w' hb hf => ⟨am (show (true : Bool) = au a b from by first | rfl | (simp [au, *]; done) | grind [au,ay]),hb⟩⟩
theorem yEqualPiece_c (a : List Pce) (aV : Value) (b : List Pce) (bV : Value) (w : World) (hl_aV : Sl w aV 2 (a.map pC)) (hl_bV : Sl w bV 2 (b.map pC))  : Calls Try.prog 126 #[aV, bV] w fun e w' => e = .returned (.bool (al bK a b)) ∧ Below w.heap.size w w' := by
 obtain ⟨Aa,Ca,hva⟩ := hl_aV.form
 rw [List.length_map] at hva; subst hva
 have hna := hl_aV.len; rw [List.length_map] at hna
 have hqa := Sl.capLe hl_aV
 obtain ⟨Ab,Cb,hvb⟩ := hl_bV.form
 rw [List.length_map] at hvb; subst hvb
 have hnb := hl_bV.len; rw [List.length_map] at hnb
 have hqb := Sl.capLe hl_bV
 refine ad (args := [.slice Aa a.length Ca,.slice Ab b.length Cb]) (fn := Try.f126) [a9 (.slice Aa a.length Ca) 2 (a.map pC),a9 (.slice Ab b.length Cb) 2 (b.map pC)] Try.func126 rfl Try.ntmps126 rfl (by simp only [List.mem_cons,List.not_mem_nil,or_false,forall_eq_or_imp,forall_eq]; exact ⟨⟨rfl,hl_aV⟩,⟨rfl,hl_bV⟩⟩) ?_
 refine kQ <| ct [0,1] ⟨[(0,.v (.slice Aa a.length Ca)),(1,.v (.slice Ab b.length Cb))],[],[],[a9 (.slice Aa a.length Ca) 2 (a.map pC),a9 (.slice Ab b.length Cb) 2 (b.map pC)]⟩ <| kS <| kQ <| aS [0,1,10] [(0,.v (.slice Aa a.length Ca)),(1,.v (.slice Ab b.length Cb)),(10,aB (((a.length : Nat) : Int) != ((b.length : Nat) : Int)))] ?_
 refine kC (((a.length : Nat) : Int) != ((b.length : Nat) : Int)) (fun h1 => ?_) (fun h1 => ?_)
 have h1p := neT h1
 refine kQ <| aS [4] [(4,aB false)] <| kR ?_
 exact ⟨[.bool false],by kernel_rfl,fun w' hb hf => ⟨am (show (false : Bool) = al bK a b from by first | rfl | (simp [ay, *]; done) | grind [ay,ay]),hb⟩⟩
 have h1p := neF h1
 refine kK <| kS <| kQ <| aS [0,1,12,13] [(0,.v (.slice Aa a.length Ca)),(1,.v (.slice Ab b.length Cb)),(12,aI ((a.length : Nat) : Int)),(13,aI 0)] ?_
 refine aa ?_
 have hlen : a.length = b.length := by omega
 refine bd (α := {x : Nat // (fun (k : Nat) => k ≤ a.length ∧ ∀ (i : Nat) (x y : Pce),i < k → a[i]? = some x → b[i]? = some y → bK x y = true) x}) (fun x => (fun (k : Nat) => (⟨[(0,.v (.slice Aa a.length Ca)),(1,.v (.slice Ab b.length Cb)),(12,aI ((a.length : Nat) : Int)),(13,aI (k : Int))],[],[],[a9 (.slice Aa a.length Ca) 2 (a.map pC),a9 (.slice Ab b.length Cb) 2 (b.map pC)]⟩ : St)) x.1) (fun x => a.length - x.1) ⟨(0),⟨Nat.zero_le _,fun i x y hi => by omega⟩⟩ (kF 0 0 [0,1,12,13]) ?_
 rintro ⟨k,hk,HK⟩
 try dsimp only
 try dsimp only at hk HK
 refine kQ <| aS [0,1,12,13,14] [(0,.v (.slice Aa a.length Ca)),(1,.v (.slice Ab b.length Cb)),(12,aI ((a.length : Nat) : Int)),(13,aI (k : Int)),(14,aB (decide ((k : Int) < ((a.length : Nat) : Int))))] <| kS <| kC (decide ((k : Int) < ((a.length : Nat) : Int))) (fun h2 => ?_) (fun h2 => ?_)
 have h2p := of_decide_eq_true h2
 have hlt : k < a.length := by simpa using h2
 obtain ⟨x,hx⟩ : ∃ x,a[k]? = some x := ⟨_,List.getElem?_eq_getElem hlt⟩
 obtain ⟨y,hy⟩ : ∃ y,b[k]? = some y := ⟨_,List.getElem?_eq_getElem (by omega)⟩
 refine kK <| kS <| aa <| kQ <| aS [0,1,5,12,13] [(0,.v (.slice Aa a.length Ca)),(1,.v (.slice Ab b.length Cb)),(5,aI (k : Int)),(12,aI ((a.length : Nat) : Int)),(13,aI (k : Int))] ?_
 refine kS <| cw <| bj (K := 2) (j := k) [iI x.off,.string x.text] (a9 (.slice Aa a.length Ca) 2 (a.map pC)) (fun _ _ h => h) (by simp) (fun w h => h) (fun b h => h) (by simp only [List.getElem?_map,hx]; rfl) (fun bq3 offq3 hAq3 => ?_)
 refine bj (K := 2) (j := k) [iI y.off,.string y.text] (a9 (.slice Ab b.length Cb) 2 (b.map pC)) (fun _ _ h => h) (by simp) (fun w h => h) (fun b h => h) (by simp only [List.getElem?_map,hy]; rfl) (fun bq4 offq4 hAq4 => ?_)
 refine bg [] (by kernel_rfl) (fun ρ σ hq5 => ?_)
 refine kTS [0,1,4,5] [21,20,17,16,0,1,12,13] 5 [(21,aI (k : Int)),(20,.v (.slice Ab b.length Cb)),(17,aI (k : Int)),(16,.v (.slice Aa a.length Ca)),(0,.v (.slice Aa a.length Ca)),(1,.v (.slice Ab b.length Cb)),(12,aI ((a.length : Nat) : Int)),(13,aI (k : Int))] <| aA (kd := .i64) (T := 104) (e := 161) (K := 2) (j := k) (A := Aa) (len := a.length) (cap := Ca) 2 0 _ rfl (by kernel_rfl) (by kernel_rfl) (by kernel_rfl) (fun _ _ h => h) (by kernel_rfl) rfl rfl (by kernel_rfl) (by kernel_rfl) (by kernel_rfl) (by kernel_rfl) hlt hAq3 hq5.1.2 (by kernel_rfl) rfl ?_
 refine kTS [3] [19,21,20,0,1,12,13] 3 [(19,.v (.agg (pceL x).toArray)),(21,aI (k : Int)),(20,.v (.slice Ab b.length Cb)),(0,.v (.slice Aa a.length Ca)),(1,.v (.slice Ab b.length Cb)),(12,aI ((a.length : Nat) : Int)),(13,aI (k : Int))] <| aA (kd := .i64) (T := 104) (e := 161) (K := 2) (j := k) (A := Ab) (len := b.length) (cap := Cb) 6 1 _ rfl (by kernel_rfl) (by kernel_rfl) (by kernel_rfl) (fun _ _ h => h) (by kernel_rfl) rfl rfl (by kernel_rfl) (by kernel_rfl) (by kernel_rfl) (by kernel_rfl) (by omega) hAq4 hq5.2 (by kernel_rfl) rfl ?_
 refine kTS [7] [23,19,0,1,12,13] 1 [(23,.v (.agg (pceL y).toArray)),(19,.v (.agg (pceL x).toArray)),(0,.v (.slice Aa a.length Ca)),(1,.v (.slice Ab b.length Cb)),(12,aI ((a.length : Nat) : Int)),(13,aI (k : Int))] <| kX 8 (.bool (!bK x y)) rfl (fun _ _ ww hA => bU hA rfl (by kernel_rfl) (by kernel_rfl) (bX (by kernel_rfl) (run_neq_PCE x.off x.text y.off y.text ww))) ?_
 refine kZ <| kC (!bK x y) (fun h6 => ?_) (fun h6 => ?_)
 have hno := bH hx hy (by simpa using h6)
 refine kQ <| aS [4] [(4,aB false)] <| kR ?_
 exact ⟨[.bool false],by kernel_rfl,fun w' hb hf => ⟨am (show (false : Bool) = al bK a b from by first | rfl | (simp [ay, *]; done) | grind [ay,ay]),hb⟩⟩
 have hye : bK x y = true := by simpa using h6
 refine kK <| kG <| co 2 [0,1,12,13] [(0,.v (.slice Aa a.length Ca)),(1,.v (.slice Ab b.length Cb)),(12,aI ((a.length : Nat) : Int)),(13,aI (K6.wrap ((k : Int) + 1)))] <| xl_eqS (t' := [(0,.v (.slice Aa a.length Ca)),(1,.v (.slice Ab b.length Cb)),(12,aI ((a.length : Nat) : Int)),(13,aI ((k : Int) + 1))]) (by rw [show (K6.wrap ((k : Int) + 1)) = ((k : Int) + 1) from bf (by omega) (by omega)]) ?_
 refine aS [0,1,12,13] [(0,.v (.slice Aa a.length Ca)),(1,.v (.slice Ab b.length Cb)),(12,aI ((a.length : Nat) : Int)),(13,aI ((k : Int) + 1))] ?_
 exact ⟨⟨(k + 1),⟨by omega,cx hx hy hye HK⟩⟩,kF 0 0 [0,1,12,13],by show a.length - (k + 1) < a.length - k; omega⟩
 have h2p := of_decide_eq_false h2
 have hge : k = a.length := by simp at h2; omega
 have hall := bm hge hlen HK
 refine bD <| kQ <| aS [4] [(4,aB true)] <| kR ?_
 exact ⟨[.bool true],by kernel_rfl,fun w' hb hf => ⟨am (show (true : Bool) = al bK a b from by first | rfl | (simp [ay, *]; done) | grind [ay,ay]),hb⟩⟩
theorem yiSameReceiver_c (a : Rcv) (a_heldV : Value) (b : Rcv) (b_heldV : Value) (w : World) (hl_a_heldV : Sl w a_heldV 2 (a.held.map pC)) (hl_b_heldV : Sl w b_heldV 2 (b.held.map pC))  : Calls Try.prog 103 #[.agg (cl a a_heldV).toArray, .agg (cl b b_heldV).toArray] w fun e w' => e = .returned (.bool (au a b)) ∧ Below w.heap.size w w' := by
 obtain ⟨Aah,Cah,hvah⟩ := hl_a_heldV.form
 rw [List.length_map] at hvah; subst hvah
 have hnah := hl_a_heldV.len; rw [List.length_map] at hnah
 have hqah := Sl.capLe hl_a_heldV
 obtain ⟨Abh,Cbh,hvbh⟩ := hl_b_heldV.form
 rw [List.length_map] at hvbh; subst hvbh
 have hnbh := hl_b_heldV.len; rw [List.length_map] at hnbh
 have hqbh := Sl.capLe hl_b_heldV
 refine ad (args := [.agg (cl a (.slice Aah a.held.length Cah)).toArray,.agg (cl b (.slice Abh b.held.length Cbh)).toArray]) (fn := Try.f103) [a9 (.slice Aah a.held.length Cah) 2 (a.held.map pC),a9 (.slice Abh b.held.length Cbh) 2 (b.held.map pC)] Try.func103 rfl Try.ntmps103 rfl (by simp only [List.mem_cons,List.not_mem_nil,or_false,forall_eq_or_imp,forall_eq]; exact ⟨⟨rfl,hl_a_heldV⟩,⟨rfl,hl_b_heldV⟩⟩) ?_
 refine kQ <| ct [2,3] ⟨[(2,.p 0 0),(3,.p 1 0)],[⟨106,cl a (.slice Aah a.held.length Cah)⟩,⟨106,cl b (.slice Abh b.held.length Cbh)⟩],[],[a9 (.slice Aah a.held.length Cah) 2 (a.held.map pC),a9 (.slice Abh b.held.length Cbh) 2 (b.held.map pC)]⟩ <| kS <| cn ⟨[(4,aB ((a.next == b.next) && ((a.data.toList == b.data.toList) && ((al bK a.held b.held) && ((a.fin == b.fin) && (a.done == b.done))))))],[⟨106,cl a (.slice Aah a.held.length Cah)⟩,⟨106,cl b (.slice Abh b.held.length Cbh)⟩],[],[a9 (.slice Aah a.held.length Cah) 2 (a.held.map pC),a9 (.slice Abh b.held.length Cbh) 2 (b.held.map pC)]⟩ ?_ ?_
 refine kG <| co 6 [2,3,10] [(2,.p 0 0),(3,.p 1 0),(10,aB (a.next == b.next))] <| kP 10 (a.next == b.next) (fun h1 => ?_) (fun h1 => ?_)
 have h1p := eqT h1
 refine co 7 [2,3,17] [(2,.p 0 0),(3,.p 1 0),(17,aB (a.data.toList == b.data.toList))] <| kP 17 (a.data.toList == b.data.toList) (fun h2 => ?_) (fun h2 => ?_)
 have h2p := h2; simp only [beq_iff_eq,bne_iff_ne,beq_eq_false_iff_ne,bne_eq_false_iff_eq,ne_eq,ch] at h2p
 refine kCS 4 [2,3,17,19,21] [(2,.p 0 0),(3,.p 1 0),(17,aB true),(19,.v (.slice Aah a.held.length Cah)),(21,.v (.slice Abh b.held.length Cbh))] 126 [.slice Aah a.held.length Cah,.slice Abh b.held.length Cbh] (some 22) rfl (bL fun ww hf => yEqualPiece_c a.held (.slice Aah a.held.length Cah) b.held (.slice Abh b.held.length Cbh) ww (hf _ m0) (hf _ m1) ) ?_
 intro _
 refine co 2 [2,3,24] [(2,.p 0 0),(3,.p 1 0),(24,aB (al bK a.held b.held))] <| kP 24 (al bK a.held b.held) (fun h3 => ?_) (fun h3 => ?_)
 refine co 7 [2,3,31] [(2,.p 0 0),(3,.p 1 0),(31,aB (a.fin == b.fin))] <| kP 31 (a.fin == b.fin) (fun h4 => ?_) (fun h4 => ?_)
 have h4p := eqT h4
 refine aS [4] [(4,aB (a.done == b.done))] ?_
 show Wk _ _
 try rw [h1]
 try rw [h2]
 try rw [h3]
 try rw [h4]
 exact kF 2 0 [4]
 have h4p := eqF h4
 refine aS [4] [(4,aB false)] ?_
 show Wk _ _
 try rw [h1]
 try rw [h2]
 try rw [h3]
 try rw [h4]
 exact kF 2 0 [4]
 refine aS [4] [(4,aB false)] ?_
 show Wk _ _
 try rw [h1]
 try rw [h2]
 try rw [h3]
 exact kF 2 0 [4]
 have h2p := h2; simp only [beq_iff_eq,bne_iff_ne,beq_eq_false_iff_ne,bne_eq_false_iff_eq,ne_eq,ch] at h2p
 refine aS [4] [(4,aB false)] ?_
 show Wk _ _
 try rw [h1]
 try rw [h2]
 exact kF 2 0 [4]
 have h1p := eqF h1
 refine aS [4] [(4,aB false)] ?_
 show Wk _ _
 try rw [h1]
 exact kF 2 0 [4]
 refine kR ?_
 exact ⟨[.bool ((a.next == b.next) && ((a.data.toList == b.data.toList) && ((al bK a.held b.held) && ((a.fin == b.fin) && (a.done == b.done)))))],by kernel_rfl,fun w' hb hf => ⟨am (show ((a.next == b.next) && ((a.data.toList == b.data.toList) && ((al bK a.held b.held) && ((a.fin == b.fin) && (a.done == b.done)))) : Bool) = au a b from by first | rfl | (simp [au, *]; done) | grind [au,ay]),hb⟩⟩
theorem ysSameConn_c (a : Con) (a_r_heldV : Value) (b : Con) (b_r_heldV : Value) (w : World) (hl_a_r_heldV : Sl w a_r_heldV 2 (a.r.held.map pC)) (hl_b_r_heldV : Sl w b_r_heldV 2 (b.r.held.map pC))  : Calls Try.prog 60 #[.agg (bc a a_r_heldV).toArray, .agg (bc b b_r_heldV).toArray] w fun e w' => e = .returned (.bool (ag a b)) ∧ Below w.heap.size w w' := by
 obtain ⟨Aarh,Carh,hvarh⟩ := hl_a_r_heldV.form
 rw [List.length_map] at hvarh; subst hvarh
 have hnarh := hl_a_r_heldV.len; rw [List.length_map] at hnarh
 have hqarh := Sl.capLe hl_a_r_heldV
 obtain ⟨Abrh,Cbrh,hvbrh⟩ := hl_b_r_heldV.form
 rw [List.length_map] at hvbrh; subst hvbrh
 have hnbrh := hl_b_r_heldV.len; rw [List.length_map] at hnbrh
 have hqbrh := Sl.capLe hl_b_r_heldV
 refine ad (args := [.agg (bc a (cS Aarh a Carh)).toArray,.agg (bc b (cS Abrh b Cbrh)).toArray]) (fn := Try.f60) [cH Aarh a Carh,cH Abrh b Cbrh] Try.func60 rfl Try.ntmps60 rfl (by simp only [List.mem_cons,List.not_mem_nil,or_false,forall_eq_or_imp,forall_eq]; exact ⟨⟨rfl,hl_a_r_heldV⟩,⟨rfl,hl_b_r_heldV⟩⟩) ?_
 refine kQ <| ct [2,3] ⟨[(2,.p 0 0),(3,.p 1 0)],[⟨108,bc a (cS Aarh a Carh)⟩,⟨108,bc b (cS Abrh b Cbrh)⟩],[],[cH Aarh a Carh,cH Abrh b Cbrh]⟩ <| kS <| cn ⟨[(4,aB ((aJ a.t b.t) && ((a.state == b.state) && ((ce a.s b.s) && ((au a.r b.r) && ((a.window == b.window) && ((a.most == b.most) && ((cu a.o b.o) && ((a.timer == b.timer) && (a.tries == b.tries))))))))))],[⟨108,bc a (cS Aarh a Carh)⟩,⟨108,bc b (cS Abrh b Cbrh)⟩],[],[cH Aarh a Carh,cH Abrh b Cbrh]⟩ ?_ ?_
 refine kG <| kOS 4 [2,3,6,8] [(2,.p 0 0),(3,.p 1 0),(6,.v (.agg (tupL a.t).toArray)),(8,.v (.agg (tupL b.t).toArray))] (.bool (aJ a.t b.t)) rfl (fun _ _ _ ww hr => bU hr.1 rfl (by kernel_rfl) (by kernel_rfl) (bX (by kernel_rfl) (run_eql_TUP a.t.ip a.t.port a.t.my b.t.ip b.t.port b.t.my ww))) ?_
 refine co 1 [2,3,10] [(2,.p 0 0),(3,.p 1 0),(10,aB (aJ a.t b.t))] <| kP 10 (aJ a.t b.t) (fun h1 => ?_) (fun h1 => ?_)
 refine co 7 [2,3,17] [(2,.p 0 0),(3,.p 1 0),(17,aB (a.state == b.state))] <| kP 17 (a.state == b.state) (fun h2 => ?_) (fun h2 => ?_)
 have h2p := eqT h2
 refine kOS 4 [2,3,17,19,21] [(2,.p 0 0),(3,.p 1 0),(17,aB true),(19,.v (.agg (sndL a.s).toArray)),(21,.v (.agg (sndL b.s).toArray))] (.bool (ce a.s b.s)) rfl (fun _ _ _ ww hr => bU hr.1 rfl (by kernel_rfl) (by kernel_rfl) (bX (by kernel_rfl) (run_eql_SND a.s.una a.s.data a.s.sent a.s.fin a.s.finSent a.s.done b.s.una b.s.data b.s.sent b.s.fin b.s.finSent b.s.done ww))) ?_
 refine co 2 [2,3,24] [(2,.p 0 0),(3,.p 1 0),(24,aB (ce a.s b.s))] <| kP 24 (ce a.s b.s) (fun h3 => ?_) (fun h3 => ?_)
 refine kCS 4 [2,3,24,26,28] [(2,.p 0 0),(3,.p 1 0),(24,aB true),(26,.v (.agg (cl a.r (cS Aarh a Carh)).toArray)),(28,.v (.agg (cl b.r (cS Abrh b Cbrh)).toArray))] 99 [.agg (cl a.r (cS Aarh a Carh)).toArray,.agg (cl b.r (cS Abrh b Cbrh)).toArray] (some 29) rfl (bL fun ww hf => ysSameReceiver_c a.r (cS Aarh a Carh) b.r (cS Abrh b Cbrh) ww (hf _ m0) (hf _ m1) ) ?_
 intro _
 refine co 2 [2,3,31] [(2,.p 0 0),(3,.p 1 0),(31,aB (au a.r b.r))] <| kP 31 (au a.r b.r) (fun h4 => ?_) (fun h4 => ?_)
 refine co 7 [2,3,38] [(2,.p 0 0),(3,.p 1 0),(38,aB (a.window == b.window))] <| kP 38 (a.window == b.window) (fun h5 => ?_) (fun h5 => ?_)
 have h5p := eqT h5
 refine co 7 [2,3,45] [(2,.p 0 0),(3,.p 1 0),(45,aB (a.most == b.most))] <| kP 45 (a.most == b.most) (fun h6 => ?_) (fun h6 => ?_)
 have h6p := eqT h6
 refine kOS 4 [2,3,45,47,49] [(2,.p 0 0),(3,.p 1 0),(45,aB true),(47,.v (.agg (optL a.o).toArray)),(49,.v (.agg (optL b.o).toArray))] (.bool (cu a.o b.o)) rfl (fun _ _ _ ww hr => bU hr.1 rfl (by kernel_rfl) (by kernel_rfl) (bX (by kernel_rfl) (run_eql_OPT a.o.mss a.o.scale a.o.sack a.o.stamp a.o.val a.o.echo b.o.mss b.o.scale b.o.sack b.o.stamp b.o.val b.o.echo ww))) ?_
 refine co 2 [2,3,52] [(2,.p 0 0),(3,.p 1 0),(52,aB (cu a.o b.o))] <| kP 52 (cu a.o b.o) (fun h7 => ?_) (fun h7 => ?_)
 refine co 7 [2,3,59] [(2,.p 0 0),(3,.p 1 0),(59,aB (a.timer == b.timer))] <| kP 59 (a.timer == b.timer) (fun h8 => ?_) (fun h8 => ?_)
 have h8p := eqT h8
 refine aS [4] [(4,aB (a.tries == b.tries))] ?_
 show Wk _ _
 try rw [h1]
 try rw [h2]
 try rw [h3]
 try rw [h4]
 try rw [h5]
 try rw [h6]
 try rw [h7]
 try rw [h8]
 exact kF 2 0 [4]
 have h8p := eqF h8
 refine aS [4] [(4,aB false)] ?_
 show Wk _ _
 try rw [h1]
 try rw [h2]
 try rw [h3]
 try rw [h4]
 try rw [h5]
 try rw [h6]
 try rw [h7]
 try rw [h8]
 exact kF 2 0 [4]
 refine aS [4] [(4,aB false)] ?_
 show Wk _ _
 try rw [h1]
 try rw [h2]
 try rw [h3]
 try rw [h4]
 try rw [h5]
 try rw [h6]
 try rw [h7]
 exact kF 2 0 [4]
 have h6p := eqF h6
 refine aS [4] [(4,aB false)] ?_
 show Wk _ _
 try rw [h1]
 try rw [h2]
 try rw [h3]
 try rw [h4]
 try rw [h5]
 try rw [h6]
 exact kF 2 0 [4]
 have h5p := eqF h5
 refine aS [4] [(4,aB false)] ?_
 show Wk _ _
 try rw [h1]
 try rw [h2]
 try rw [h3]
 try rw [h4]
 try rw [h5]
 exact kF 2 0 [4]
 refine aS [4] [(4,aB false)] ?_
 show Wk _ _
 try rw [h1]
 try rw [h2]
 try rw [h3]
 try rw [h4]
 exact kF 2 0 [4]
 refine aS [4] [(4,aB false)] ?_
 show Wk _ _
 try rw [h1]
 try rw [h2]
 try rw [h3]
 exact kF 2 0 [4]
 have h2p := eqF h2
 refine aS [4] [(4,aB false)] ?_
 show Wk _ _
 try rw [h1]
 try rw [h2]
 exact kF 2 0 [4]
 refine aS [4] [(4,aB false)] ?_
 show Wk _ _
 try rw [h1]
 exact kF 2 0 [4]
 refine kR ?_
 exact ⟨[.bool ((aJ a.t b.t) && ((a.state == b.state) && ((ce a.s b.s) && ((au a.r b.r) && ((a.window == b.window) && ((a.most == b.most) && ((cu a.o b.o) && ((a.timer == b.timer) && (a.tries == b.tries)))))))))],by kernel_rfl,fun w' hb hf => ⟨am (show ((aJ a.t b.t) && ((a.state == b.state) && ((ce a.s b.s) && ((au a.r b.r) && ((a.window == b.window) && ((a.most == b.most) && ((cu a.o b.o) && ((a.timer == b.timer) && (a.tries == b.tries)))))))) : Bool) = ag a b from by first | rfl | (simp [ag, *]; done) | grind [ag,ay]),hb⟩⟩
theorem yiSameConn_c (a : Con) (a_r_heldV : Value) (b : Con) (b_r_heldV : Value) (w : World) (hl_a_r_heldV : Sl w a_r_heldV 2 (a.r.held.map pC)) (hl_b_r_heldV : Sl w b_r_heldV 2 (b.r.held.map pC))  : Calls Try.prog 68 #[.agg (bc a a_r_heldV).toArray, .agg (bc b b_r_heldV).toArray] w fun e w' => e = .returned (.bool (ag a b)) ∧ Below w.heap.size w w' := by
 obtain ⟨Aarh,Carh,hvarh⟩ := hl_a_r_heldV.form
 rw [List.length_map] at hvarh; subst hvarh
 have hnarh := hl_a_r_heldV.len; rw [List.length_map] at hnarh
 have hqarh := Sl.capLe hl_a_r_heldV
 obtain ⟨Abrh,Cbrh,hvbrh⟩ := hl_b_r_heldV.form
 rw [List.length_map] at hvbrh; subst hvbrh
 have hnbrh := hl_b_r_heldV.len; rw [List.length_map] at hnbrh
 have hqbrh := Sl.capLe hl_b_r_heldV
 refine ad (args := [.agg (bc a (cS Aarh a Carh)).toArray,.agg (bc b (cS Abrh b Cbrh)).toArray]) (fn := Try.f68) [cH Aarh a Carh,cH Abrh b Cbrh] Try.func68 rfl Try.ntmps68 rfl (by simp only [List.mem_cons,List.not_mem_nil,or_false,forall_eq_or_imp,forall_eq]; exact ⟨⟨rfl,hl_a_r_heldV⟩,⟨rfl,hl_b_r_heldV⟩⟩) ?_
 refine kQ <| ct [2,3] ⟨[(2,.p 0 0),(3,.p 1 0)],[⟨108,bc a (cS Aarh a Carh)⟩,⟨108,bc b (cS Abrh b Cbrh)⟩],[],[cH Aarh a Carh,cH Abrh b Cbrh]⟩ <| kS <| cn ⟨[(4,aB ((aJ a.t b.t) && ((a.state == b.state) && ((ce a.s b.s) && ((au a.r b.r) && ((a.window == b.window) && ((a.most == b.most) && ((cu a.o b.o) && ((a.timer == b.timer) && (a.tries == b.tries))))))))))],[⟨108,bc a (cS Aarh a Carh)⟩,⟨108,bc b (cS Abrh b Cbrh)⟩],[],[cH Aarh a Carh,cH Abrh b Cbrh]⟩ ?_ ?_
 refine kG <| kOS 4 [2,3,6,8] [(2,.p 0 0),(3,.p 1 0),(6,.v (.agg (tupL a.t).toArray)),(8,.v (.agg (tupL b.t).toArray))] (.bool (aJ a.t b.t)) rfl (fun _ _ _ ww hr => bU hr.1 rfl (by kernel_rfl) (by kernel_rfl) (bX (by kernel_rfl) (run_eql_TUP a.t.ip a.t.port a.t.my b.t.ip b.t.port b.t.my ww))) ?_
 refine co 1 [2,3,10] [(2,.p 0 0),(3,.p 1 0),(10,aB (aJ a.t b.t))] <| kP 10 (aJ a.t b.t) (fun h1 => ?_) (fun h1 => ?_)
 refine co 7 [2,3,17] [(2,.p 0 0),(3,.p 1 0),(17,aB (a.state == b.state))] <| kP 17 (a.state == b.state) (fun h2 => ?_) (fun h2 => ?_)
 have h2p := eqT h2
 refine kOS 4 [2,3,17,19,21] [(2,.p 0 0),(3,.p 1 0),(17,aB true),(19,.v (.agg (sndL a.s).toArray)),(21,.v (.agg (sndL b.s).toArray))] (.bool (ce a.s b.s)) rfl (fun _ _ _ ww hr => bU hr.1 rfl (by kernel_rfl) (by kernel_rfl) (bX (by kernel_rfl) (run_eql_SND a.s.una a.s.data a.s.sent a.s.fin a.s.finSent a.s.done b.s.una b.s.data b.s.sent b.s.fin b.s.finSent b.s.done ww))) ?_
 refine co 2 [2,3,24] [(2,.p 0 0),(3,.p 1 0),(24,aB (ce a.s b.s))] <| kP 24 (ce a.s b.s) (fun h3 => ?_) (fun h3 => ?_)
 refine kCS 4 [2,3,24,26,28] [(2,.p 0 0),(3,.p 1 0),(24,aB true),(26,.v (.agg (cl a.r (cS Aarh a Carh)).toArray)),(28,.v (.agg (cl b.r (cS Abrh b Cbrh)).toArray))] 103 [.agg (cl a.r (cS Aarh a Carh)).toArray,.agg (cl b.r (cS Abrh b Cbrh)).toArray] (some 29) rfl (bL fun ww hf => yiSameReceiver_c a.r (cS Aarh a Carh) b.r (cS Abrh b Cbrh) ww (hf _ m0) (hf _ m1) ) ?_
 intro _
 refine co 2 [2,3,31] [(2,.p 0 0),(3,.p 1 0),(31,aB (au a.r b.r))] <| kP 31 (au a.r b.r) (fun h4 => ?_) (fun h4 => ?_)
 refine co 7 [2,3,38] [(2,.p 0 0),(3,.p 1 0),(38,aB (a.window == b.window))] <| kP 38 (a.window == b.window) (fun h5 => ?_) (fun h5 => ?_)
 have h5p := eqT h5
 refine co 7 [2,3,45] [(2,.p 0 0),(3,.p 1 0),(45,aB (a.most == b.most))] <| kP 45 (a.most == b.most) (fun h6 => ?_) (fun h6 => ?_)
 have h6p := eqT h6
 refine kOS 4 [2,3,45,47,49] [(2,.p 0 0),(3,.p 1 0),(45,aB true),(47,.v (.agg (optL a.o).toArray)),(49,.v (.agg (optL b.o).toArray))] (.bool (cu a.o b.o)) rfl (fun _ _ _ ww hr => bU hr.1 rfl (by kernel_rfl) (by kernel_rfl) (bX (by kernel_rfl) (run_eql_OPT a.o.mss a.o.scale a.o.sack a.o.stamp a.o.val a.o.echo b.o.mss b.o.scale b.o.sack b.o.stamp b.o.val b.o.echo ww))) ?_
 refine co 2 [2,3,52] [(2,.p 0 0),(3,.p 1 0),(52,aB (cu a.o b.o))] <| kP 52 (cu a.o b.o) (fun h7 => ?_) (fun h7 => ?_)
 refine co 7 [2,3,59] [(2,.p 0 0),(3,.p 1 0),(59,aB (a.timer == b.timer))] <| kP 59 (a.timer == b.timer) (fun h8 => ?_) (fun h8 => ?_)
 have h8p := eqT h8
 refine aS [4] [(4,aB (a.tries == b.tries))] ?_
 show Wk _ _
 try rw [h1]
 try rw [h2]
 try rw [h3]
 try rw [h4]
 try rw [h5]
 try rw [h6]
 try rw [h7]
 try rw [h8]
 exact kF 2 0 [4]
 have h8p := eqF h8
 refine aS [4] [(4,aB false)] ?_
 show Wk _ _
 try rw [h1]
 try rw [h2]
 try rw [h3]
 try rw [h4]
 try rw [h5]
 try rw [h6]
 try rw [h7]
 try rw [h8]
 exact kF 2 0 [4]
 refine aS [4] [(4,aB false)] ?_
 show Wk _ _
 try rw [h1]
 try rw [h2]
 try rw [h3]
 try rw [h4]
 try rw [h5]
 try rw [h6]
 try rw [h7]
 exact kF 2 0 [4]
 have h6p := eqF h6
 refine aS [4] [(4,aB false)] ?_
 show Wk _ _
 try rw [h1]
 try rw [h2]
 try rw [h3]
 try rw [h4]
 try rw [h5]
 try rw [h6]
 exact kF 2 0 [4]
 have h5p := eqF h5
 refine aS [4] [(4,aB false)] ?_
 show Wk _ _
 try rw [h1]
 try rw [h2]
 try rw [h3]
 try rw [h4]
 try rw [h5]
 exact kF 2 0 [4]
 refine aS [4] [(4,aB false)] ?_
 show Wk _ _
 try rw [h1]
 try rw [h2]
 try rw [h3]
 try rw [h4]
 exact kF 2 0 [4]
 refine aS [4] [(4,aB false)] ?_
 show Wk _ _
 try rw [h1]
 try rw [h2]
 try rw [h3]
 exact kF 2 0 [4]
 have h2p := eqF h2
 refine aS [4] [(4,aB false)] ?_
 show Wk _ _
 try rw [h1]
 try rw [h2]
 exact kF 2 0 [4]
 refine aS [4] [(4,aB false)] ?_
 show Wk _ _
 try rw [h1]
 exact kF 2 0 [4]
 refine kR ?_
 exact ⟨[.bool ((aJ a.t b.t) && ((a.state == b.state) && ((ce a.s b.s) && ((au a.r b.r) && ((a.window == b.window) && ((a.most == b.most) && ((cu a.o b.o) && ((a.timer == b.timer) && (a.tries == b.tries)))))))))],by kernel_rfl,fun w' hb hf => ⟨am (show ((aJ a.t b.t) && ((a.state == b.state) && ((ce a.s b.s) && ((au a.r b.r) && ((a.window == b.window) && ((a.most == b.most) && ((cu a.o b.o) && ((a.timer == b.timer) && (a.tries == b.tries)))))))) : Bool) = ag a b from by first | rfl | (simp [ag, *]; done) | grind [ag,ay]),hb⟩⟩
@[simp] theorem inB18_1 : inB 1 1 8 = true := rfl
@[simp] theorem inB18_2 : inB 2 1 8 = true := rfl
@[simp] theorem inB18_3 : inB 3 1 8 = true := rfl
@[simp] theorem inB18_4 : inB 4 1 8 = true := rfl
@[simp] theorem inB18_5 : inB 5 1 8 = true := rfl
@[simp] theorem inB18_6 : inB 6 1 8 = true := rfl
@[simp] theorem inB18_7 : inB 7 1 8 = true := rfl
@[simp] theorem inB18_8 : inB 8 1 8 = true := rfl
def bh (x : Tab) (x_connsV : Value) (x_waitingV : Value) : List Value := [x_connsV, x_waitingV]
def aW (x : Mac) (x_rowsV : Value) : List Value := [.bool x.use, .int .u64 x.k, .int .u64 x.l, x_rowsV]
def aC (x : Kys) (x_now_rowsV : Value) (x_before_rowsV : Value) : List Value := [iI x.epoch, .bool x.now.use, .int .u64 x.now.k, .int .u64 x.now.l, x_now_rowsV, .bool x.before.use, .int .u64 x.before.k, .int .u64 x.before.l, x_before_rowsV, .bool x.two]
def aZ (x : Dor) (x_keys_now_rowsV : Value) (x_keys_before_rowsV : Value) (x_halvesV : Value) (x_table_connsV : Value) (x_table_waitingV : Value) : List Value := [iI x.port, iI x.clock, iI x.keys.epoch, .bool x.keys.now.use, .int .u64 x.keys.now.k, .int .u64 x.keys.now.l, x_keys_now_rowsV, .bool x.keys.before.use, .int .u64 x.keys.before.k, .int .u64 x.keys.before.l, x_keys_before_rowsV, .bool x.keys.two, iI x.lim.halves, iI x.lim.waiting, iI x.lim.conns, iI x.lim.chal, x_halvesV, x_table_connsV, x_table_waitingV, iI x.chal]
def az (a b : Tab) : Bool := al (fun x y : CV => ag x.1 y.1) a.conns b.conns && al aJ a.waiting b.waiting
theorem sameTable_pl {a a' b b' : Tab} (h : pl a.conns = pl a'.conns) (hw : a.waiting = a'.waiting) (h2 : pl b.conns = pl b'.conns) (hw2 : b.waiting = b'.waiting) : az a b = az a' b' := by
 unfold az; rw [sameL_pl,sameL_pl,h,h2,hw,hw2]
theorem yEqualTuple_c (a : List Tup) (aV : Value) (b : List Tup) (bV : Value) (w : World) (hl_aV : Sl w aV 3 (a.map a7)) (hl_bV : Sl w bV 3 (b.map a7))  : Calls Try.prog 69 #[aV, bV] w fun e w' => e = .returned (.bool (al aJ a b)) ∧ Below w.heap.size w w' := by
 obtain ⟨Aa,Ca,hva⟩ := hl_aV.form
 rw [List.length_map] at hva; subst hva
 have hna := hl_aV.len; rw [List.length_map] at hna
 have hqa := Sl.capLe hl_aV
 obtain ⟨Ab,Cb,hvb⟩ := hl_bV.form
 rw [List.length_map] at hvb; subst hvb
 have hnb := hl_bV.len; rw [List.length_map] at hnb
 have hqb := Sl.capLe hl_bV
 refine ad (args := [.slice Aa a.length Ca,.slice Ab b.length Cb]) (fn := Try.f69) [a9 (.slice Aa a.length Ca) 3 (a.map a7),a9 (.slice Ab b.length Cb) 3 (b.map a7)] Try.func69 rfl Try.ntmps69 rfl (by simp only [List.mem_cons,List.not_mem_nil,or_false,forall_eq_or_imp,forall_eq]; exact ⟨⟨rfl,hl_aV⟩,⟨rfl,hl_bV⟩⟩) ?_
 refine kQ <| ct [0,1] ⟨[(0,.v (.slice Aa a.length Ca)),(1,.v (.slice Ab b.length Cb))],[],[],[a9 (.slice Aa a.length Ca) 3 (a.map a7),a9 (.slice Ab b.length Cb) 3 (b.map a7)]⟩ <| kS <| kQ <| bk [0,1,10] [(10,aB (((a.length : Nat) : Int) != ((b.length : Nat) : Int)))] ?_
 refine kC (((a.length : Nat) : Int) != ((b.length : Nat) : Int)) (fun h1 => ?_) (fun h1 => ?_)
 have h1p := neT h1
 refine kQ <| aS [4] [(4,aB false)] <| kR ?_
 exact ⟨[.bool false],by kernel_rfl,fun w' hb hf => ⟨am (show (false : Bool) = al aJ a b from by first | exact hnow.symm | exact hallw.symm | exact (ay (by omega)).symm),hb⟩⟩
 have h1p := neF h1
 refine kK <| kS <| kQ <| bk [0,1,12,13] [(12,aI ((a.length : Nat) : Int)),(13,aI 0)] ?_
 refine aa ?_
 have hlenw : a.length = b.length := by omega
 refine bd (α := {x : Nat // (fun (kw : Nat) => kw ≤ a.length ∧ ∀ (i : Nat) (x y : Tup),i < kw → a[i]? = some x → b[i]? = some y → aJ x y = true) x}) (fun x => (fun (kw : Nat) => (⟨[(0,.v (.slice Aa a.length Ca)),(1,.v (.slice Ab b.length Cb)),(12,aI ((a.length : Nat) : Int)),(13,aI (kw : Int))],[],[],[a9 (.slice Aa a.length Ca) 3 (a.map a7),a9 (.slice Ab b.length Cb) 3 (b.map a7)]⟩ : St)) x.1) (fun x => a.length - x.1) ⟨(0),⟨Nat.zero_le _,fun i x y hi => by omega⟩⟩ (kF 0 0 [0,1,12,13]) ?_
 rintro ⟨kw,hkw,HKw⟩
 try dsimp only
 try dsimp only at hkw HKw
 refine kQ <| bk [0,1,12,13,14] [(14,aB (decide ((kw : Int) < ((a.length : Nat) : Int))))] <| kS <| kC (decide ((kw : Int) < ((a.length : Nat) : Int))) (fun h2 => ?_) (fun h2 => ?_)
 have h2p := of_decide_eq_true h2
 have hltw : kw < a.length := by simpa using h2
 obtain ⟨xw,hxw⟩ : ∃ x,a[kw]? = some x := ⟨_,List.getElem?_eq_getElem hltw⟩
 obtain ⟨yw,hyw⟩ : ∃ y,b[kw]? = some y := ⟨_,List.getElem?_eq_getElem (by omega)⟩
 refine kK <| kS <| aa <| kQ <| bk [0,1,5,12,13] [(5,aI (kw : Int))] ?_
 refine kS <| cw <| bj (K := 3) (j := kw) [iI xw.ip,iI xw.port,iI xw.my] (a9 (.slice Aa a.length Ca) 3 (a.map a7)) (fun _ _ h => h) (by simp) (fun w h => h) (fun b h => h) (by simp only [List.getElem?_map,hxw]; rfl) (fun bq3 offq3 hAq3 => ?_)
 refine bj (K := 3) (j := kw) [iI yw.ip,iI yw.port,iI yw.my] (a9 (.slice Ab b.length Cb) 3 (b.map a7)) (fun _ _ h => h) (by simp) (fun w h => h) (fun b h => h) (by simp only [List.getElem?_map,hyw]; rfl) (fun bq4 offq4 hAq4 => ?_)
 refine bg [] (by kernel_rfl) (fun ρ σ hq5 => ?_)
 refine kTD [0,1,4,5] [21,20,17,16,0,1,12,13] 5 [(21,aI (kw : Int)),(20,.v (.slice Ab b.length Cb)),(17,aI (kw : Int)),(16,.v (.slice Aa a.length Ca))] <| aA (kd := .i64) (T := 47) (e := 62) (K := 3) (j := kw) (A := Aa) (len := a.length) (cap := Ca) 2 0 _ rfl (by kernel_rfl) (by kernel_rfl) (by kernel_rfl) (fun _ _ h => h) (by kernel_rfl) rfl rfl (by kernel_rfl) (by kernel_rfl) (by kernel_rfl) (by kernel_rfl) hltw hAq3 hq5.1.2 (by kernel_rfl) rfl ?_
 refine kTD [3] [19,21,20,0,1,12,13] 3 [(19,.v (.agg (tupL xw).toArray))] <| aA (kd := .i64) (T := 47) (e := 62) (K := 3) (j := kw) (A := Ab) (len := b.length) (cap := Cb) 6 1 _ rfl (by kernel_rfl) (by kernel_rfl) (by kernel_rfl) (fun _ _ h => h) (by kernel_rfl) rfl rfl (by kernel_rfl) (by kernel_rfl) (by kernel_rfl) (by kernel_rfl) (by omega) hAq4 hq5.2 (by kernel_rfl) rfl ?_
 refine kTD [7] [23,19,0,1,12,13] 1 [(23,.v (.agg (tupL yw).toArray))] <| kX 8 (.bool (!aJ xw yw)) rfl (fun _ _ ww hA => bU hA rfl (by kernel_rfl) (by kernel_rfl) (bX (by kernel_rfl) (run_neq_TUP xw.ip xw.port xw.my yw.ip yw.port yw.my ww))) ?_
 refine kZ <| kC (!aJ xw yw) (fun h6 => ?_) (fun h6 => ?_)
 have hnow := bH hxw hyw (by simpa using h6)
 refine kQ <| aS [4] [(4,aB false)] <| kR ?_
 exact ⟨[.bool false],by kernel_rfl,fun w' hb hf => ⟨am (show (false : Bool) = al aJ a b from by first | exact hnow.symm | exact hallw.symm | exact (ay (by omega)).symm),hb⟩⟩
 have hyew : aJ xw yw = true := by simpa using h6
 refine kK <| kG <| kRD 2 [0,1,12,13] [(13,aI (K6.wrap ((kw : Int) + 1)))] <| xl_nv [0,1,12,13] [(13,aI (K6.wrap ((kw : Int) + 1)))] [(13,aI ((kw : Int) + 1))] (by rw [show (K6.wrap ((kw : Int) + 1)) = ((kw : Int) + 1) from bf (by omega) (by omega)]) (by kernel_rfl) ?_
 refine bk [0,1,12,13] [] ?_
 exact ⟨⟨(kw + 1),⟨by omega,cx hxw hyw hyew HKw⟩⟩,kF 0 0 [0,1,12,13],by show a.length - (kw + 1) < a.length - kw; omega⟩
 have h2p := of_decide_eq_false h2
 have hgew : kw = a.length := by simp at h2; omega
 have hallw := bm hgew hlenw HKw
 refine bD <| kQ <| aS [4] [(4,aB true)] <| kR ?_
 exact ⟨[.bool true],by kernel_rfl,fun w' hb hf => ⟨am (show (true : Bool) = al aJ a b from by first | exact hnow.symm | exact hallw.symm | exact (ay (by omega)).symm),hb⟩⟩
theorem ysSameTable_c (a : Tab) (a_connsV : Value) (a_waitingV : Value) (b : Tab) (b_connsV : Value) (b_waitingV : Value) (w : World) (hl_a_connsV : Sl w a_connsV 25 (a.conns.map ar)) (hh_a_connsV : ∀ x ∈ a.conns, Sl w x.2 2 (x.1.r.held.map pC)) (hl_a_waitingV : Sl w a_waitingV 3 (a.waiting.map a7)) (hl_b_connsV : Sl w b_connsV 25 (b.conns.map ar)) (hh_b_connsV : ∀ x ∈ b.conns, Sl w x.2 2 (x.1.r.held.map pC)) (hl_b_waitingV : Sl w b_waitingV 3 (b.waiting.map a7))  : Calls Try.prog 23 #[.agg (bh a a_connsV a_waitingV).toArray, .agg (bh b b_connsV b_waitingV).toArray] w fun e w' => e = .returned (.bool (az a b)) ∧ Below w.heap.size w w' := by
 obtain ⟨Aac,Cac,hvac⟩ := hl_a_connsV.form
 rw [List.length_map] at hvac; subst hvac
 have hnac := hl_a_connsV.len; rw [List.length_map] at hnac
 have hqac := Sl.capLe hl_a_connsV
 obtain ⟨Aaw,Caw,hvaw⟩ := hl_a_waitingV.form
 rw [List.length_map] at hvaw; subst hvaw
 have hnaw := hl_a_waitingV.len; rw [List.length_map] at hnaw
 have hqaw := Sl.capLe hl_a_waitingV
 obtain ⟨Abc,Cbc,hvbc⟩ := hl_b_connsV.form
 rw [List.length_map] at hvbc; subst hvbc
 have hnbc := hl_b_connsV.len; rw [List.length_map] at hnbc
 have hqbc := Sl.capLe hl_b_connsV
 obtain ⟨Abw,Cbw,hvbw⟩ := hl_b_waitingV.form
 rw [List.length_map] at hvbw; subst hvbw
 have hnbw := hl_b_waitingV.len; rw [List.length_map] at hnbw
 have hqbw := Sl.capLe hl_b_waitingV
 refine ad (args := [.agg (bh a (.slice Aac a.conns.length Cac) (.slice Aaw a.waiting.length Caw)).toArray,.agg (bh b (.slice Abc b.conns.length Cbc) (.slice Abw b.waiting.length Cbw)).toArray]) (fn := Try.f23) [a9 (.slice Aac a.conns.length Cac) 25 (a.conns.map ar),ac a.conns,a9 (.slice Aaw a.waiting.length Caw) 3 (a.waiting.map a7),a9 (.slice Abc b.conns.length Cbc) 25 (b.conns.map ar),ac b.conns,a9 (.slice Abw b.waiting.length Cbw) 3 (b.waiting.map a7)] Try.func23 rfl Try.ntmps23 rfl (by simp only [List.mem_cons,List.not_mem_nil,or_false,forall_eq_or_imp,forall_eq]; exact ⟨⟨rfl,hl_a_connsV⟩,⟨rfl,hh_a_connsV⟩,⟨rfl,hl_a_waitingV⟩,⟨rfl,hl_b_connsV⟩,⟨rfl,hh_b_connsV⟩,⟨rfl,hl_b_waitingV⟩⟩) ?_
 refine kQ <| ct [2,3] ⟨[(2,.p 0 0),(3,.p 1 0)],[⟨49,bh a (.slice Aac a.conns.length Cac) (.slice Aaw a.waiting.length Caw)⟩,⟨49,bh b (.slice Abc b.conns.length Cbc) (.slice Abw b.waiting.length Cbw)⟩],[],[a9 (.slice Aac a.conns.length Cac) 25 (a.conns.map ar),ac a.conns,a9 (.slice Aaw a.waiting.length Caw) 3 (a.waiting.map a7),a9 (.slice Abc b.conns.length Cbc) 25 (b.conns.map ar),ac b.conns,a9 (.slice Abw b.waiting.length Cbw) 3 (b.waiting.map a7)]⟩ <| kS <| kQ <| kRD 8 [2,3,14] [(14,aB (((a.conns.length : Nat) : Int) != ((b.conns.length : Nat) : Int)))] ?_
 refine kP 14 (((a.conns.length : Nat) : Int) != ((b.conns.length : Nat) : Int)) (fun h1 => ?_) (fun h1 => ?_)
 have h1p := neT h1
 refine bk [2,3,22] [(22,aB true)] <| kT <| kQ <| aS [4] [(4,aB false)] ?_
 refine kR ?_
 exact ⟨[.bool false],by kernel_rfl,fun w' hb hf => ⟨am (show (false : Bool) = az a b from by first | (unfold az; rw [hno]; rfl) | (unfold az; rw [hnow]; simp) | (unfold az; rw [hall,hallw]; rfl) | (unfold az; rw [ay (a := a.conns) (by omega)]; rfl) | (unfold az; rw [ay (a := a.waiting) (by omega)]; simp)),hb⟩⟩
 have h1p := neF h1
 refine bk [2,3,22] [(22,aB (((a.waiting.length : Nat) : Int) != ((b.waiting.length : Nat) : Int)))] <| kC (((a.waiting.length : Nat) : Int) != ((b.waiting.length : Nat) : Int)) (fun h2 => ?_) (fun h2 => ?_)
 have h2p := neT h2
 refine kQ <| aS [4] [(4,aB false)] <| kR ?_
 exact ⟨[.bool false],by kernel_rfl,fun w' hb hf => ⟨am (show (false : Bool) = az a b from by first | (unfold az; rw [hno]; rfl) | (unfold az; rw [hnow]; simp) | (unfold az; rw [hall,hallw]; rfl) | (unfold az; rw [ay (a := a.conns) (by omega)]; rfl) | (unfold az; rw [ay (a := a.waiting) (by omega)]; simp)),hb⟩⟩
 have h2p := neF h2
 refine kK <| kS <| kQ <| bk [2,3,5] [(5,aI 0)] ?_
 refine aa ?_
 have hlen : a.conns.length = b.conns.length := by omega
 refine bd (α := {x : Nat // (fun (k : Nat) => k ≤ a.conns.length ∧ ∀ (i : Nat) (x y : CV),i < k → a.conns[i]? = some x → b.conns[i]? = some y → ag x.1 y.1 = true) x}) (fun x => (fun (k : Nat) => (⟨[(2,.p 0 0),(3,.p 1 0),(5,aI (k : Int))],[⟨49,bh a (.slice Aac a.conns.length Cac) (.slice Aaw a.waiting.length Caw)⟩,⟨49,bh b (.slice Abc b.conns.length Cbc) (.slice Abw b.waiting.length Cbw)⟩],[],[a9 (.slice Aac a.conns.length Cac) 25 (a.conns.map ar),ac a.conns,a9 (.slice Aaw a.waiting.length Caw) 3 (a.waiting.map a7),a9 (.slice Abc b.conns.length Cbc) 25 (b.conns.map ar),ac b.conns,a9 (.slice Abw b.waiting.length Cbw) 3 (b.waiting.map a7)]⟩ : St)) x.1) (fun x => a.conns.length - x.1) ⟨(0),⟨Nat.zero_le _,fun i x y hi => by omega⟩⟩ (kF 2 0 [2,3,5]) ?_
 rintro ⟨k,hk,HK⟩
 try dsimp only
 try dsimp only at hk HK
 refine kS <| kQ <| bk [2,3,5,27] [(27,aB (decide ((k : Int) < ((a.conns.length : Nat) : Int))))] <| kC (decide ((k : Int) < ((a.conns.length : Nat) : Int))) (fun h3 => ?_) (fun h3 => ?_)
 have h3p := of_decide_eq_true h3
 have hlt : k < a.conns.length := by simpa using h3
 obtain ⟨x0,hx⟩ : ∃ x,a.conns[k]? = some x := ⟨_,List.getElem?_eq_getElem hlt⟩
 obtain ⟨x,xa,xc,rfl⟩ := cN (hh_a_connsV x0 (List.mem_of_getElem? hx))
 obtain ⟨y0,hy⟩ : ∃ y,b.conns[k]? = some y := ⟨_,List.getElem?_eq_getElem (by omega)⟩
 obtain ⟨y,ya,yc,rfl⟩ := cN (hh_b_connsV y0 (List.mem_of_getElem? hy))
 refine kK <| kS <| aa <| kS <| cw ?_
 refine bj (K := 25) (j := k) [iI x.t.ip,iI x.t.port,iI x.t.my,iI x.state,iI x.s.una,.string x.s.data,iI x.s.sent,.bool x.s.fin,.bool x.s.finSent,.bool x.s.done,iI x.r.next,.string x.r.data,.slice xa x.r.held.length xc,iI x.r.fin,.bool x.r.done,iI x.window,iI x.most,iI x.o.mss,iI x.o.scale,.bool x.o.sack,.bool x.o.stamp,iI x.o.val,iI x.o.echo,iI x.timer,iI x.tries] (a9 (.slice Aac a.conns.length Cac) 25 (a.conns.map ar)) (fun _ _ h => h) (by simp) (fun w h => h) (fun b h => h) (by simp only [List.getElem?_map,hx]; rfl) (fun bq4 offq4 hAq4 => ?_)
 refine bj (K := 25) (j := k) [iI y.t.ip,iI y.t.port,iI y.t.my,iI y.state,iI y.s.una,.string y.s.data,iI y.s.sent,.bool y.s.fin,.bool y.s.finSent,.bool y.s.done,iI y.r.next,.string y.r.data,.slice ya y.r.held.length yc,iI y.r.fin,.bool y.r.done,iI y.window,iI y.most,iI y.o.mss,iI y.o.scale,.bool y.o.sack,.bool y.o.stamp,iI y.o.val,iI y.o.echo,iI y.timer,iI y.tries] (a9 (.slice Abc b.conns.length Cbc) 25 (b.conns.map ar)) (fun _ _ h => h) (by simp) (fun w h => h) (fun b h => h) (by simp only [List.getElem?_map,hy]; rfl) (fun bq5 offq5 hAq5 => ?_)
 refine bg [] (by kernel_rfl) (fun ρ σ hq6 => ?_)
 refine kTD [0,1,2,5,6,7] [37,36,32,31,2,3,5] 6 [(37,aI (k : Int)),(36,.v (.slice Abc b.conns.length Cbc)),(32,aI (k : Int)),(31,.v (.slice Aac a.conns.length Cac))] <| aA (kd := .i64) (T := 46) (e := 108) (K := 25) (j := k) (A := Aac) (len := a.conns.length) (cap := Cac) 3 0 _ rfl (by kernel_rfl) (by kernel_rfl) (by kernel_rfl) (fun _ _ h => h) (by kernel_rfl) rfl rfl (by kernel_rfl) (by kernel_rfl) (by kernel_rfl) (by kernel_rfl) hlt hAq4 hq6.1.2 (by kernel_rfl) rfl ?_
 refine kTD [4] [34,37,36,2,3,5] 4 [(34,.v (.agg (bc x (cS xa x xc)).toArray))] <| aA (kd := .i64) (T := 46) (e := 108) (K := 25) (j := k) (A := Abc) (len := b.conns.length) (cap := Cbc) 8 1 _ rfl (by kernel_rfl) (by kernel_rfl) (by kernel_rfl) (fun _ _ h => h) (by kernel_rfl) rfl rfl (by kernel_rfl) (by kernel_rfl) (by kernel_rfl) (by kernel_rfl) (by omega) hAq5 hq6.2 (by kernel_rfl) rfl ?_
 refine kTD [9] [39,34,2,3,5] 2 [(39,.v (.agg (bc y (cS ya y yc)).toArray))] <| kA [10] <| kSC 10 60 [.agg (bc x (cS xa x xc)).toArray,.agg (bc y (cS ya y yc)).toArray] (some 40) rfl (bL fun ww hf => ysSameConn_c x (cS xa x xc) y (cS ya y yc) ww ((hf _ m1) (x,.slice xa x.r.held.length xc) (List.mem_of_getElem? hx)) ((hf _ m4) (y,.slice ya y.r.held.length yc) (List.mem_of_getElem? hy)) ) ?_
 intro _
 refine kTD [11] [41,2,3,5] 0 [(41,aB (!(ag x y)))] <| kZ <| kC (!(ag x y)) (fun h7 => ?_) (fun h7 => ?_)
 have hno := bH (eq := fun x y : CV => ag x.1 y.1) hx hy (by simpa using h7)
 refine kQ <| aS [4] [(4,aB false)] <| kR ?_
 exact ⟨[.bool false],by kernel_rfl,fun w' hb hf => ⟨am (show (false : Bool) = az a b from by first | (unfold az; rw [hno]; rfl) | (unfold az; rw [hnow]; simp) | (unfold az; rw [hall,hallw]; rfl) | (unfold az; rw [ay (a := a.conns) (by omega)]; rfl) | (unfold az; rw [ay (a := a.waiting) (by omega)]; simp)),hb⟩⟩
 have hye : ag x y = true := by simpa using h7
 refine kK <| kG <| kRD 3 [2,3,5] [(5,aI (K6.wrap ((k : Int) + 1)))] <| xl_nv [2,3,5] [(5,aI (K6.wrap ((k : Int) + 1)))] [(5,aI ((k : Int) + 1))] (by rw [show (K6.wrap ((k : Int) + 1)) = ((k : Int) + 1) from bf (by omega) (by omega)]) (by kernel_rfl) ?_
 refine aS [2,3,5] [(2,.p 0 0),(3,.p 1 0),(5,aI ((k : Int) + 1))] ?_
 exact ⟨⟨(k + 1),⟨by omega,cx (eq := fun x y : CV => ag x.1 y.1) hx hy hye HK⟩⟩,kF 2 0 [2,3,5],by show a.conns.length - (k + 1) < a.conns.length - k; omega⟩
 have h3p := of_decide_eq_false h3
 have hge : k = a.conns.length := by simp at h3; omega
 have hall := bm (eq := fun x y : CV => ag x.1 y.1) hge hlen HK
 refine bD <| kS <| kQ <| bk [2,3,6] [(6,aI 0)] ?_
 refine aa ?_
 have hlenw : a.waiting.length = b.waiting.length := by omega
 refine bd (α := {x : Nat // (fun (kw : Nat) => kw ≤ a.waiting.length ∧ ∀ (i : Nat) (x y : Tup),i < kw → a.waiting[i]? = some x → b.waiting[i]? = some y → aJ x y = true) x}) (fun x => (fun (kw : Nat) => (⟨[(2,.p 0 0),(3,.p 1 0),(6,aI (kw : Int))],[⟨49,bh a (.slice Aac a.conns.length Cac) (.slice Aaw a.waiting.length Caw)⟩,⟨49,bh b (.slice Abc b.conns.length Cbc) (.slice Abw b.waiting.length Cbw)⟩],[],[a9 (.slice Aac a.conns.length Cac) 25 (a.conns.map ar),ac a.conns,a9 (.slice Aaw a.waiting.length Caw) 3 (a.waiting.map a7),a9 (.slice Abc b.conns.length Cbc) 25 (b.conns.map ar),ac b.conns,a9 (.slice Abw b.waiting.length Cbw) 3 (b.waiting.map a7)]⟩ : St)) x.1) (fun x => a.waiting.length - x.1) ⟨(0),⟨Nat.zero_le _,fun i x y hi => by omega⟩⟩ (kF 2 0 [2,3,6]) ?_
 rintro ⟨kw,hkw,HKw⟩
 try dsimp only
 try dsimp only at hkw HKw
 refine kS <| kQ <| bk [2,3,6,46] [(46,aB (decide ((kw : Int) < ((a.waiting.length : Nat) : Int))))] <| kC (decide ((kw : Int) < ((a.waiting.length : Nat) : Int))) (fun h8 => ?_) (fun h8 => ?_)
 have h8p := of_decide_eq_true h8
 have hltw : kw < a.waiting.length := by simpa using h8
 obtain ⟨xw,hxw⟩ : ∃ x,a.waiting[kw]? = some x := ⟨_,List.getElem?_eq_getElem hltw⟩
 obtain ⟨yw,hyw⟩ : ∃ y,b.waiting[kw]? = some y := ⟨_,List.getElem?_eq_getElem (by omega)⟩
 refine kK <| kS <| aa <| kS <| cw ?_
 refine bj (K := 3) (j := kw) [iI xw.ip,iI xw.port,iI xw.my] (a9 (.slice Aaw a.waiting.length Caw) 3 (a.waiting.map a7)) (fun _ _ h => h) (by simp) (fun w h => h) (fun b h => h) (by simp only [List.getElem?_map,hxw]; rfl) (fun bq9 offq9 hAq9 => ?_)
 refine bj (K := 3) (j := kw) [iI yw.ip,iI yw.port,iI yw.my] (a9 (.slice Abw b.waiting.length Cbw) 3 (b.waiting.map a7)) (fun _ _ h => h) (by simp) (fun w h => h) (fun b h => h) (by simp only [List.getElem?_map,hyw]; rfl) (fun bq10 offq10 hAq10 => ?_)
 refine bg [] (by kernel_rfl) (fun ρ σ hq11 => ?_)
 refine kTD [0,1,2,5,6,7] [56,55,51,50,2,3,6] 5 [(56,aI (kw : Int)),(55,.v (.slice Abw b.waiting.length Cbw)),(51,aI (kw : Int)),(50,.v (.slice Aaw a.waiting.length Caw))] <| aA (kd := .i64) (T := 47) (e := 62) (K := 3) (j := kw) (A := Aaw) (len := a.waiting.length) (cap := Caw) 3 0 _ rfl (by kernel_rfl) (by kernel_rfl) (by kernel_rfl) (fun _ _ h => h) (by kernel_rfl) rfl rfl (by kernel_rfl) (by kernel_rfl) (by kernel_rfl) (by kernel_rfl) hltw hAq9 hq11.1.2 (by kernel_rfl) rfl ?_
 refine kTD [4] [53,56,55,2,3,6] 3 [(53,.v (.agg (tupL xw).toArray))] <| aA (kd := .i64) (T := 47) (e := 62) (K := 3) (j := kw) (A := Abw) (len := b.waiting.length) (cap := Cbw) 8 1 _ rfl (by kernel_rfl) (by kernel_rfl) (by kernel_rfl) (fun _ _ h => h) (by kernel_rfl) rfl rfl (by kernel_rfl) (by kernel_rfl) (by kernel_rfl) (by kernel_rfl) (by omega) hAq10 hq11.2 (by kernel_rfl) rfl ?_
 refine kTD [9] [58,53,2,3,6] 1 [(58,.v (.agg (tupL yw).toArray))] <| kX 10 (.bool (!aJ xw yw)) rfl (fun _ _ ww hA => bU hA rfl (by kernel_rfl) (by kernel_rfl) (bX (by kernel_rfl) (run_neq_TUP xw.ip xw.port xw.my yw.ip yw.port yw.my ww))) ?_
 refine kZ <| kC (!aJ xw yw) (fun h12 => ?_) (fun h12 => ?_)
 have hnow := bH hxw hyw (by simpa using h12)
 refine kQ <| aS [4] [(4,aB false)] <| kR ?_
 exact ⟨[.bool false],by kernel_rfl,fun w' hb hf => ⟨am (show (false : Bool) = az a b from by first | (unfold az; rw [hno]; rfl) | (unfold az; rw [hnow]; simp) | (unfold az; rw [hall,hallw]; rfl) | (unfold az; rw [ay (a := a.conns) (by omega)]; rfl) | (unfold az; rw [ay (a := a.waiting) (by omega)]; simp)),hb⟩⟩
 have hyew : aJ xw yw = true := by simpa using h12
 refine kK <| kG <| co 3 [2,3,6] [(2,.p 0 0),(3,.p 1 0),(6,aI (K6.wrap ((kw : Int) + 1)))] <| xl_eqS (t' := [(2,.p 0 0),(3,.p 1 0),(6,aI ((kw : Int) + 1))]) (by rw [show (K6.wrap ((kw : Int) + 1)) = ((kw : Int) + 1) from bf (by omega) (by omega)]) ?_
 refine bk [2,3,6] [] ?_
 exact ⟨⟨(kw + 1),⟨by omega,cx hxw hyw hyew HKw⟩⟩,kF 2 0 [2,3,6],by show a.waiting.length - (kw + 1) < a.waiting.length - kw; omega⟩
 have h8p := of_decide_eq_false h8
 have hgew : kw = a.waiting.length := by simp at h8; omega
 have hallw := bm hgew hlenw HKw
 refine bD <| kQ <| aS [4] [(4,aB true)] <| kR ?_
 exact ⟨[.bool true],by kernel_rfl,fun w' hb hf => ⟨am (show (true : Bool) = az a b from by first | (unfold az; rw [hno]; rfl) | (unfold az; rw [hnow]; simp) | (unfold az; rw [hall,hallw]; rfl) | (unfold az; rw [ay (a := a.conns) (by omega)]; rfl) | (unfold az; rw [ay (a := a.waiting) (by omega)]; simp)),hb⟩⟩
theorem yEqualFConn_c (a : List CV) (aV : Value) (b : List CV) (bV : Value) (w : World) (hl_aV : Sl w aV 25 (a.map ar)) (hh_aV : ∀ x ∈ a, Sl w x.2 2 (x.1.r.held.map pC)) (hl_bV : Sl w bV 25 (b.map ar)) (hh_bV : ∀ x ∈ b, Sl w x.2 2 (x.1.r.held.map pC))  : Calls Try.prog 67 #[aV, bV, .func (.func 68) #[] #[]] w fun e w' => e = .returned (.bool (al (fun x y : CV => ag x.1 y.1) a b)) ∧ Below w.heap.size w w' := by
 obtain ⟨Aa,Ca,hva⟩ := hl_aV.form
 rw [List.length_map] at hva; subst hva
 have hna := hl_aV.len; rw [List.length_map] at hna
 have hqa := Sl.capLe hl_aV
 obtain ⟨Ab,Cb,hvb⟩ := hl_bV.form
 rw [List.length_map] at hvb; subst hvb
 have hnb := hl_bV.len; rw [List.length_map] at hnb
 have hqb := Sl.capLe hl_bV
 refine ad (args := [.slice Aa a.length Ca,.slice Ab b.length Cb,.func (.func 68) #[] #[]]) (fn := Try.f67) [a9 (.slice Aa a.length Ca) 25 (a.map ar),ac a,a9 (.slice Ab b.length Cb) 25 (b.map ar),ac b] Try.func67 rfl Try.ntmps67 rfl (by simp only [List.mem_cons,List.not_mem_nil,or_false,forall_eq_or_imp,forall_eq]; exact ⟨⟨rfl,hl_aV⟩,⟨rfl,hh_aV⟩,⟨rfl,hl_bV⟩,⟨rfl,hh_bV⟩⟩) ?_
 refine kQ <| ct [0,1,2] ⟨[(0,.v (.slice Aa a.length Ca)),(1,.v (.slice Ab b.length Cb)),(2,.v (.func (.func 68) #[] #[]))],[],[],[a9 (.slice Aa a.length Ca) 25 (a.map ar),ac a,a9 (.slice Ab b.length Cb) 25 (b.map ar),ac b]⟩ <| kS <| kQ <| bk [0,1,2,14] [(14,aB (((a.length : Nat) : Int) != ((b.length : Nat) : Int)))] ?_
 refine kC (((a.length : Nat) : Int) != ((b.length : Nat) : Int)) (fun h1 => ?_) (fun h1 => ?_)
 have h1p := neT h1
 refine kQ <| aS [6] [(6,aB false)] <| kR ?_
 exact ⟨[.bool false],by kernel_rfl,fun w' hb hf => ⟨am (by first | exact hno.symm | exact hall.symm | exact (ay (by omega)).symm),hb⟩⟩
 have h1p := neF h1
 refine kK <| kS <| kQ <| bk [1,2,15,16,17] [(15,.v (.slice Aa a.length Ca)),(16,aI ((a.length : Nat) : Int)),(17,aI 0)] ?_
 refine aa ?_
 have hlen : a.length = b.length := by omega
 refine bd (α := {x : Nat // (fun (k : Nat) => k ≤ a.length ∧ ∀ (i : Nat) (x y : CV),i < k → a[i]? = some x → b[i]? = some y → ag x.1 y.1 = true) x}) (fun x => (fun (k : Nat) => (⟨[(1,.v (.slice Ab b.length Cb)),(2,.v (.func (.func 68) #[] #[])),(15,.v (.slice Aa a.length Ca)),(16,aI ((a.length : Nat) : Int)),(17,aI (k : Int))],[],[],[a9 (.slice Aa a.length Ca) 25 (a.map ar),ac a,a9 (.slice Ab b.length Cb) 25 (b.map ar),ac b]⟩ : St)) x.1) (fun x => a.length - x.1) ⟨(0),⟨Nat.zero_le _,fun i x y hi => by omega⟩⟩ (kF 0 0 [1,2,15,16,17]) ?_
 rintro ⟨k,hk,HK⟩
 try dsimp only
 try dsimp only at hk HK
 refine kQ <| bk [1,2,15,16,17,18] [(18,aB (decide ((k : Int) < ((a.length : Nat) : Int))))] <| kS <| kC (decide ((k : Int) < ((a.length : Nat) : Int))) (fun h2 => ?_) (fun h2 => ?_)
 have h2p := of_decide_eq_true h2
 have hlt : k < a.length := by simpa using h2
 obtain ⟨x0,hx⟩ : ∃ x,a[k]? = some x := ⟨_,List.getElem?_eq_getElem hlt⟩
 obtain ⟨x,xa,xc,rfl⟩ := cN (hh_aV x0 (List.mem_of_getElem? hx))
 obtain ⟨y0,hy⟩ : ∃ y,b[k]? = some y := ⟨_,List.getElem?_eq_getElem (by omega)⟩
 obtain ⟨y,ya,yc,rfl⟩ := cN (hh_bV y0 (List.mem_of_getElem? hy))
 refine kK <| kS <| aa <| kQ <| cU (kd := .i64) (T := 46) (e := 108) (K := 25) 1 [1,2,15,16,17,19] [(19,aI (k : Int))] k [iI x.t.ip,iI x.t.port,iI x.t.my,iI x.state,iI x.s.una,.string x.s.data,iI x.s.sent,.bool x.s.fin,.bool x.s.finSent,.bool x.s.done,iI x.r.next,.string x.r.data,.slice xa x.r.held.length xc,iI x.r.fin,.bool x.r.done,iI x.window,iI x.most,iI x.o.mss,iI x.o.scale,.bool x.o.sack,.bool x.o.stamp,iI x.o.val,iI x.o.echo,iI x.timer,iI x.tries] (a9 (.slice Aa a.length Ca) 25 (a.map ar)) (by kernel_rfl) rfl (by kernel_rfl) rfl rfl (by kernel_rfl) (by kernel_rfl) (by kernel_rfl) (by kernel_rfl) hlt (by simp) (fun w h => h) (fun b h => h) (by simp only [List.getElem?_map,hx]; rfl) ?_
 refine kEA [1,2,7,8,15,16,17] [(7,aI (k : Int)),(8,.p 0 0)] [⟨108,bc x (cS xa x xc)⟩] <| kQ <| cU (kd := .i64) (T := 46) (e := 108) (K := 25) 2 [1,2,8,15,16,17,22,23] [(22,.v (.slice Ab b.length Cb)),(23,aI (k : Int))] k [iI y.t.ip,iI y.t.port,iI y.t.my,iI y.state,iI y.s.una,.string y.s.data,iI y.s.sent,.bool y.s.fin,.bool y.s.finSent,.bool y.s.done,iI y.r.next,.string y.r.data,.slice ya y.r.held.length yc,iI y.r.fin,.bool y.r.done,iI y.window,iI y.most,iI y.o.mss,iI y.o.scale,.bool y.o.sack,.bool y.o.stamp,iI y.o.val,iI y.o.echo,iI y.timer,iI y.tries] (a9 (.slice Ab b.length Cb) 25 (b.map ar)) (by kernel_rfl) rfl (by kernel_rfl) rfl rfl (by kernel_rfl) (by kernel_rfl) (by kernel_rfl) (by kernel_rfl) (by omega) (by simp) (fun w h => h) (fun b h => h) (by simp only [List.getElem?_map,hy]; rfl) ?_
 refine kEA [1,2,8,9,15,16,17] [(9,.p 1 0)] [⟨108,bc y (cS ya y yc)⟩] <| kQ <| kCD 3 [1,2,15,16,17,26,27,28] [(26,.v (.func (.func 68) #[] #[])),(27,.v (.agg (bc x (cS xa x xc)).toArray)),(28,.v (.agg (bc y (cS ya y yc)).toArray))] 68 [.agg (bc x (cS xa x xc)).toArray,.agg (bc y (cS ya y yc)).toArray] (some 29) rfl (bL fun ww hf => yiSameConn_c x (cS xa x xc) y (cS ya y yc) ww ((hf _ m1) (x,.slice xa x.r.held.length xc) (List.mem_of_getElem? hx)) ((hf _ m3) (y,.slice ya y.r.held.length yc) (List.mem_of_getElem? hy)) ) ?_
 intro _
 refine bk [1,2,15,16,17,30] [(30,aB (!(ag x y)))] <| kC (!(ag x y)) (fun h3 => ?_) (fun h3 => ?_)
 have hno := bH (eq := fun x y : CV => ag x.1 y.1) hx hy (by simpa using h3)
 refine kQ <| aS [6] [(6,aB false)] <| kR ?_
 exact ⟨[.bool false],by kernel_rfl,fun w' hb hf => ⟨am (by first | exact hno.symm | exact hall.symm | exact (ay (by omega)).symm),hb⟩⟩
 have hye : ag x y = true := by simpa using h3
 refine kK <| kG <| co 2 [1,2,15,16,17] [(1,.v (.slice Ab b.length Cb)),(2,.v (.func (.func 68) #[] #[])),(15,.v (.slice Aa a.length Ca)),(16,aI ((a.length : Nat) : Int)),(17,aI (K6.wrap ((k : Int) + 1)))] <| xl_eqS (t' := [(1,.v (.slice Ab b.length Cb)),(2,.v (.func (.func 68) #[] #[])),(15,.v (.slice Aa a.length Ca)),(16,aI ((a.length : Nat) : Int)),(17,aI ((k : Int) + 1))]) (by rw [show (K6.wrap ((k : Int) + 1)) = ((k : Int) + 1) from bf (by omega) (by omega)]) ?_
 refine bk [1,2,15,16,17] [] ?_
 exact ⟨⟨(k + 1),⟨by omega,cx (eq := fun x y : CV => ag x.1 y.1) hx hy hye HK⟩⟩,kF 0 0 [1,2,15,16,17],by show a.length - (k + 1) < a.length - k; omega⟩
 have h2p := of_decide_eq_false h2
 have hge : k = a.length := by simp at h2; omega
 have hall := bm (eq := fun x y : CV => ag x.1 y.1) hge hlen HK
 refine bD <| kQ <| aS [6] [(6,aB true)] <| kR ?_
 exact ⟨[.bool true],by kernel_rfl,fun w' hb hf => ⟨am (by first | exact hno.symm | exact hall.symm | exact (ay (by omega)).symm),hb⟩⟩
theorem yiSameTable_c (a : Tab) (a_connsV : Value) (a_waitingV : Value) (b : Tab) (b_connsV : Value) (b_waitingV : Value) (w : World) (hl_a_connsV : Sl w a_connsV 25 (a.conns.map ar)) (hh_a_connsV : ∀ x ∈ a.conns, Sl w x.2 2 (x.1.r.held.map pC)) (hl_a_waitingV : Sl w a_waitingV 3 (a.waiting.map a7)) (hl_b_connsV : Sl w b_connsV 25 (b.conns.map ar)) (hh_b_connsV : ∀ x ∈ b.conns, Sl w x.2 2 (x.1.r.held.map pC)) (hl_b_waitingV : Sl w b_waitingV 3 (b.waiting.map a7))  : Calls Try.prog 30 #[.agg (bh a a_connsV a_waitingV).toArray, .agg (bh b b_connsV b_waitingV).toArray] w fun e w' => e = .returned (.bool (az a b)) ∧ Below w.heap.size w w' := by
 obtain ⟨Aac,Cac,hvac⟩ := hl_a_connsV.form
 rw [List.length_map] at hvac; subst hvac
 have hnac := hl_a_connsV.len; rw [List.length_map] at hnac
 have hqac := Sl.capLe hl_a_connsV
 obtain ⟨Aaw,Caw,hvaw⟩ := hl_a_waitingV.form
 rw [List.length_map] at hvaw; subst hvaw
 have hnaw := hl_a_waitingV.len; rw [List.length_map] at hnaw
 have hqaw := Sl.capLe hl_a_waitingV
 obtain ⟨Abc,Cbc,hvbc⟩ := hl_b_connsV.form
 rw [List.length_map] at hvbc; subst hvbc
 have hnbc := hl_b_connsV.len; rw [List.length_map] at hnbc
 have hqbc := Sl.capLe hl_b_connsV
 obtain ⟨Abw,Cbw,hvbw⟩ := hl_b_waitingV.form
 rw [List.length_map] at hvbw; subst hvbw
 have hnbw := hl_b_waitingV.len; rw [List.length_map] at hnbw
 have hqbw := Sl.capLe hl_b_waitingV
 refine ad (args := [.agg (bh a (.slice Aac a.conns.length Cac) (.slice Aaw a.waiting.length Caw)).toArray,.agg (bh b (.slice Abc b.conns.length Cbc) (.slice Abw b.waiting.length Cbw)).toArray]) (fn := Try.f30) [a9 (.slice Aac a.conns.length Cac) 25 (a.conns.map ar),ac a.conns,a9 (.slice Aaw a.waiting.length Caw) 3 (a.waiting.map a7),a9 (.slice Abc b.conns.length Cbc) 25 (b.conns.map ar),ac b.conns,a9 (.slice Abw b.waiting.length Cbw) 3 (b.waiting.map a7)] Try.func30 rfl Try.ntmps30 rfl (by simp only [List.mem_cons,List.not_mem_nil,or_false,forall_eq_or_imp,forall_eq]; exact ⟨⟨rfl,hl_a_connsV⟩,⟨rfl,hh_a_connsV⟩,⟨rfl,hl_a_waitingV⟩,⟨rfl,hl_b_connsV⟩,⟨rfl,hh_b_connsV⟩,⟨rfl,hl_b_waitingV⟩⟩) ?_
 refine kQ <| ct [2,3] ⟨[(2,.p 0 0),(3,.p 1 0)],[⟨49,bh a (.slice Aac a.conns.length Cac) (.slice Aaw a.waiting.length Caw)⟩,⟨49,bh b (.slice Abc b.conns.length Cbc) (.slice Abw b.waiting.length Cbw)⟩],[],[a9 (.slice Aac a.conns.length Cac) 25 (a.conns.map ar),ac a.conns,a9 (.slice Aaw a.waiting.length Caw) 3 (a.waiting.map a7),a9 (.slice Abc b.conns.length Cbc) 25 (b.conns.map ar),ac b.conns,a9 (.slice Abw b.waiting.length Cbw) 3 (b.waiting.map a7)]⟩ <| kS <| cn ⟨[(4,aB ((al (fun x y : CV => ag x.1 y.1) a.conns b.conns) && (al aJ a.waiting b.waiting)))],[⟨49,bh a (.slice Aac a.conns.length Cac) (.slice Aaw a.waiting.length Caw)⟩,⟨49,bh b (.slice Abc b.conns.length Cbc) (.slice Abw b.waiting.length Cbw)⟩],[],[a9 (.slice Aac a.conns.length Cac) 25 (a.conns.map ar),ac a.conns,a9 (.slice Aaw a.waiting.length Caw) 3 (a.waiting.map a7),a9 (.slice Abc b.conns.length Cbc) 25 (b.conns.map ar),ac b.conns,a9 (.slice Abw b.waiting.length Cbw) 3 (b.waiting.map a7)]⟩ ?_ ?_
 refine kG <| kCS 4 [2,3,6,8] [(2,.p 0 0),(3,.p 1 0),(6,.v (.slice Aac a.conns.length Cac)),(8,.v (.slice Abc b.conns.length Cbc))] 67 [.slice Aac a.conns.length Cac,.slice Abc b.conns.length Cbc,.func (.func 68) #[] #[]] (some 9) rfl (bL fun ww hf => yEqualFConn_c a.conns (.slice Aac a.conns.length Cac) b.conns (.slice Abc b.conns.length Cbc) ww (hf _ m0) (hf _ m1) (hf _ m3) (hf _ m4)) ?_
 intro _
 refine co 1 [2,3,10] [(2,.p 0 0),(3,.p 1 0),(10,aB (al (fun x y : CV => ag x.1 y.1) a.conns b.conns))] <| kP 10 (al (fun x y : CV => ag x.1 y.1) a.conns b.conns) (fun h1 => ?_) (fun h1 => ?_)
 refine kCS 4 [10,12,14] [(10,aB true),(12,.v (.slice Aaw a.waiting.length Caw)),(14,.v (.slice Abw b.waiting.length Cbw))] 69 [.slice Aaw a.waiting.length Caw,.slice Abw b.waiting.length Cbw] (some 15) rfl (bL fun ww hf => yEqualTuple_c a.waiting (.slice Aaw a.waiting.length Caw) b.waiting (.slice Abw b.waiting.length Cbw) ww (hf _ m2) (hf _ m5) ) ?_
 intro _
 refine aS [4] [(4,aB (al aJ a.waiting b.waiting))] ?_
 show Wk _ _
 try rw [h1]
 exact kF 2 0 [4]
 refine aS [4] [(4,aB false)] ?_
 show Wk _ _
 try rw [h1]
 exact kF 2 0 [4]
 refine kR ?_
 exact ⟨[.bool ((al (fun x y : CV => ag x.1 y.1) a.conns b.conns) && (al aJ a.waiting b.waiting))],by kernel_rfl,fun w' hb hf => ⟨am (show ((al (fun x y : CV => ag x.1 y.1) a.conns b.conns) && (al aJ a.waiting b.waiting) : Bool) = az a b from by first | rfl | (simp [az, *]; done)),hb⟩⟩
def av (a b : Mac) : Bool := (a.use == b.use) && ((a.k == b.k) && ((a.l == b.l) && al cy a.rows b.rows))
def aG (a b : Kys) : Bool := (a.epoch == b.epoch) && ((a.two == b.two) && (av a.now b.now && av a.before b.before))
def b0 (a b : Dor) : Bool := (a.port == b.port) && ((a.clock == b.clock) && (aG a.keys b.keys && (cg a.lim b.lim && (al bl a.halves b.halves && (az a.table b.table && (a.chal == b.chal))))))
theorem sameDoor_pl {a b : Dor} {x y : List CV} (h : pl x = pl a.table.conns) (h2 : pl y = pl b.table.conns) : b0 { a with table := { a.table with conns := x } } { b with table := { b.table with conns := y } } = b0 a b := by
 have e := sameTable_pl (a := ⟨x,a.table.waiting⟩) (a' := a.table) (b := ⟨y,b.table.waiting⟩) (b' := b.table) h rfl h2 rfl
 show ((a.port == b.port) && ((a.clock == b.clock) && (aG a.keys b.keys && (cg a.lim b.lim && (al bl a.halves b.halves && (az ⟨x,a.table.waiting⟩ ⟨y,b.table.waiting⟩ && (a.chal == b.chal))))))) = b0 a b
 rw [e]; rfl
theorem yEqualMacRow_c (a : List Mrw) (aV : Value) (b : List Mrw) (bV : Value) (w : World) (hl_aV : Sl w aV 2 (a.map a5)) (hl_bV : Sl w bV 2 (b.map a5))  : Calls Try.prog 102 #[aV, bV] w fun e w' => e = .returned (.bool (al cy a b)) ∧ Below w.heap.size w w' := by
 obtain ⟨Aa,Ca,hva⟩ := hl_aV.form
 rw [List.length_map] at hva; subst hva
 have hna := hl_aV.len; rw [List.length_map] at hna
 have hqa := Sl.capLe hl_aV
 obtain ⟨Ab,Cb,hvb⟩ := hl_bV.form
 rw [List.length_map] at hvb; subst hvb
 have hnb := hl_bV.len; rw [List.length_map] at hnb
 have hqb := Sl.capLe hl_bV
 refine ad (args := [.slice Aa a.length Ca,.slice Ab b.length Cb]) (fn := Try.f102) [a9 (.slice Aa a.length Ca) 2 (a.map a5),a9 (.slice Ab b.length Cb) 2 (b.map a5)] Try.func102 rfl Try.ntmps102 rfl (by simp only [List.mem_cons,List.not_mem_nil,or_false,forall_eq_or_imp,forall_eq]; exact ⟨⟨rfl,hl_aV⟩,⟨rfl,hl_bV⟩⟩) ?_
 refine kQ <| ct [0,1] ⟨[(0,.v (.slice Aa a.length Ca)),(1,.v (.slice Ab b.length Cb))],[],[],[a9 (.slice Aa a.length Ca) 2 (a.map a5),a9 (.slice Ab b.length Cb) 2 (b.map a5)]⟩ <| kS <| kQ <| bk [0,1,10] [(10,aB (((a.length : Nat) : Int) != ((b.length : Nat) : Int)))] ?_
 refine kC (((a.length : Nat) : Int) != ((b.length : Nat) : Int)) (fun h1 => ?_) (fun h1 => ?_)
 have h1p := neT h1
 refine kQ <| aS [4] [(4,aB false)] <| kR ?_
 exact ⟨[.bool false],by kernel_rfl,fun w' hb hf => ⟨am (show (false : Bool) = al cy a b from by first | exact hnow.symm | exact hallw.symm | exact (ay (by omega)).symm),hb⟩⟩
 have h1p := neF h1
 refine kK <| kS <| kQ <| bk [0,1,12,13] [(12,aI ((a.length : Nat) : Int)),(13,aI 0)] ?_
 refine aa ?_
 have hlenw : a.length = b.length := by omega
 refine bd (α := {x : Nat // (fun (kw : Nat) => kw ≤ a.length ∧ ∀ (i : Nat) (x y : Mrw),i < kw → a[i]? = some x → b[i]? = some y → cy x y = true) x}) (fun x => (fun (kw : Nat) => (⟨[(0,.v (.slice Aa a.length Ca)),(1,.v (.slice Ab b.length Cb)),(12,aI ((a.length : Nat) : Int)),(13,aI (kw : Int))],[],[],[a9 (.slice Aa a.length Ca) 2 (a.map a5),a9 (.slice Ab b.length Cb) 2 (b.map a5)]⟩ : St)) x.1) (fun x => a.length - x.1) ⟨(0),⟨Nat.zero_le _,fun i x y hi => by omega⟩⟩ (kF 0 0 [0,1,12,13]) ?_
 rintro ⟨kw,hkw,HKw⟩
 try dsimp only
 try dsimp only at hkw HKw
 refine kQ <| bk [0,1,12,13,14] [(14,aB (decide ((kw : Int) < ((a.length : Nat) : Int))))] <| kS <| kC (decide ((kw : Int) < ((a.length : Nat) : Int))) (fun h2 => ?_) (fun h2 => ?_)
 have h2p := of_decide_eq_true h2
 have hltw : kw < a.length := by simpa using h2
 obtain ⟨xw,hxw⟩ : ∃ x,a[kw]? = some x := ⟨_,List.getElem?_eq_getElem hltw⟩
 obtain ⟨yw,hyw⟩ : ∃ y,b[kw]? = some y := ⟨_,List.getElem?_eq_getElem (by omega)⟩
 refine kK <| kS <| aa <| kQ <| bk [0,1,5,12,13] [(5,aI (kw : Int))] ?_
 refine kS <| cw <| bj (K := 2) (j := kw) [.string xw.input,iI xw.value] (a9 (.slice Aa a.length Ca) 2 (a.map a5)) (fun _ _ h => h) (by simp) (fun w h => h) (fun b h => h) (by simp only [List.getElem?_map,hxw]; rfl) (fun bq3 offq3 hAq3 => ?_)
 refine bj (K := 2) (j := kw) [.string yw.input,iI yw.value] (a9 (.slice Ab b.length Cb) 2 (b.map a5)) (fun _ _ h => h) (by simp) (fun w h => h) (fun b h => h) (by simp only [List.getElem?_map,hyw]; rfl) (fun bq4 offq4 hAq4 => ?_)
 refine bg [] (by kernel_rfl) (fun ρ σ hq5 => ?_)
 refine kTD [0,1,4,5] [21,20,17,16,0,1,12,13] 5 [(21,aI (kw : Int)),(20,.v (.slice Ab b.length Cb)),(17,aI (kw : Int)),(16,.v (.slice Aa a.length Ca))] <| aA (kd := .i64) (T := 39) (e := 141) (K := 2) (j := kw) (A := Aa) (len := a.length) (cap := Ca) 2 0 _ rfl (by kernel_rfl) (by kernel_rfl) (by kernel_rfl) (fun _ _ h => h) (by kernel_rfl) rfl rfl (by kernel_rfl) (by kernel_rfl) (by kernel_rfl) (by kernel_rfl) hltw hAq3 hq5.1.2 (by kernel_rfl) rfl ?_
 refine kTD [3] [19,21,20,0,1,12,13] 3 [(19,.v (.agg (mrwL xw).toArray))] <| aA (kd := .i64) (T := 39) (e := 141) (K := 2) (j := kw) (A := Ab) (len := b.length) (cap := Cb) 6 1 _ rfl (by kernel_rfl) (by kernel_rfl) (by kernel_rfl) (fun _ _ h => h) (by kernel_rfl) rfl rfl (by kernel_rfl) (by kernel_rfl) (by kernel_rfl) (by kernel_rfl) (by omega) hAq4 hq5.2 (by kernel_rfl) rfl ?_
 refine kTD [7] [23,19,0,1,12,13] 1 [(23,.v (.agg (mrwL yw).toArray))] <| kX 8 (.bool (!cy xw yw)) rfl (fun _ _ ww hA => bU hA rfl (by kernel_rfl) (by kernel_rfl) (bX (by kernel_rfl) (run_neq_MRW xw.input xw.value yw.input yw.value ww))) ?_
 refine kZ <| kC (!cy xw yw) (fun h6 => ?_) (fun h6 => ?_)
 have hnow := bH hxw hyw (by simpa using h6)
 refine kQ <| aS [4] [(4,aB false)] <| kR ?_
 exact ⟨[.bool false],by kernel_rfl,fun w' hb hf => ⟨am (show (false : Bool) = al cy a b from by first | exact hnow.symm | exact hallw.symm | exact (ay (by omega)).symm),hb⟩⟩
 have hyew : cy xw yw = true := by simpa using h6
 refine kK <| kG <| kRD 2 [0,1,12,13] [(13,aI (K6.wrap ((kw : Int) + 1)))] <| xl_nv [0,1,12,13] [(13,aI (K6.wrap ((kw : Int) + 1)))] [(13,aI ((kw : Int) + 1))] (by rw [show (K6.wrap ((kw : Int) + 1)) = ((kw : Int) + 1) from bf (by omega) (by omega)]) (by kernel_rfl) ?_
 refine bk [0,1,12,13] [] ?_
 exact ⟨⟨(kw + 1),⟨by omega,cx hxw hyw hyew HKw⟩⟩,kF 0 0 [0,1,12,13],by show a.length - (kw + 1) < a.length - kw; omega⟩
 have h2p := of_decide_eq_false h2
 have hgew : kw = a.length := by simp at h2; omega
 have hallw := bm hgew hlenw HKw
 refine bD <| kQ <| aS [4] [(4,aB true)] <| kR ?_
 exact ⟨[.bool true],by kernel_rfl,fun w' hb hf => ⟨am (show (true : Bool) = al cy a b from by first | exact hnow.symm | exact hallw.symm | exact (ay (by omega)).symm),hb⟩⟩
theorem ysSameMac_c (a : Mac) (a_rowsV : Value) (b : Mac) (b_rowsV : Value) (w : World) (hl_a_rowsV : Sl w a_rowsV 2 (a.rows.map a5)) (hl_b_rowsV : Sl w b_rowsV 2 (b.rows.map a5))  : Calls Try.prog 59 #[.agg (aW a a_rowsV).toArray, .agg (aW b b_rowsV).toArray] w fun e w' => e = .returned (.bool (av a b)) ∧ Below w.heap.size w w' := by
 obtain ⟨Aar,Car,hvar⟩ := hl_a_rowsV.form
 rw [List.length_map] at hvar; subst hvar
 have hnar := hl_a_rowsV.len; rw [List.length_map] at hnar
 have hqar := Sl.capLe hl_a_rowsV
 obtain ⟨Abr,Cbr,hvbr⟩ := hl_b_rowsV.form
 rw [List.length_map] at hvbr; subst hvbr
 have hnbr := hl_b_rowsV.len; rw [List.length_map] at hnbr
 have hqbr := Sl.capLe hl_b_rowsV
 refine ad (args := [.agg (aW a (.slice Aar a.rows.length Car)).toArray,.agg (aW b (.slice Abr b.rows.length Cbr)).toArray]) (fn := Try.f59) [a9 (.slice Aar a.rows.length Car) 2 (a.rows.map a5),a9 (.slice Abr b.rows.length Cbr) 2 (b.rows.map a5)] Try.func59 rfl Try.ntmps59 rfl (by simp only [List.mem_cons,List.not_mem_nil,or_false,forall_eq_or_imp,forall_eq]; exact ⟨⟨rfl,hl_a_rowsV⟩,⟨rfl,hl_b_rowsV⟩⟩) ?_
 refine kQ <| ct [2,3] ⟨[(2,.p 0 0),(3,.p 1 0)],[⟨41,aW a (.slice Aar a.rows.length Car)⟩,⟨41,aW b (.slice Abr b.rows.length Cbr)⟩],[],[a9 (.slice Aar a.rows.length Car) 2 (a.rows.map a5),a9 (.slice Abr b.rows.length Cbr) 2 (b.rows.map a5)]⟩ <| kS <| kQ <| kRD 6 [2,3,11] [(11,aB (!(a.use == b.use)))] ?_
 refine kP 11 (!(a.use == b.use)) (fun h1 => ?_) (fun h1 => ?_)
 have h1n := not_t h1
 have h1np := eqF h1n
 refine bk [2,3,33] [(33,aB true)] <| kT <| kQ <| aS [4] [(4,aB false)] ?_
 refine kR ?_
 exact ⟨[.bool false],by kernel_rfl,fun w' hb hf => ⟨am (show (false : Bool) = av a b from by first | (unfold av; rw [hnow]; simp; done) | (unfold av; rw [hallw]; simp_all; done) | (unfold av; rw [ay (a := a.rows) (by omega)]; simp; done) | (unfold av; simp_all; done)),hb⟩⟩
 have h1n := not_f h1
 have h1np := eqT h1n
 refine kRD 7 [2,3,18] [(18,aB (a.k != b.k))] <| kP 18 (a.k != b.k) (fun h2 => ?_) (fun h2 => ?_)
 have h2p := neT h2
 refine bk [2,3,33] [(33,aB true)] <| kT <| kQ <| aS [4] [(4,aB false)] ?_
 refine kR ?_
 exact ⟨[.bool false],by kernel_rfl,fun w' hb hf => ⟨am (show (false : Bool) = av a b from by first | (unfold av; rw [hnow]; simp; done) | (unfold av; rw [hallw]; simp_all; done) | (unfold av; rw [ay (a := a.rows) (by omega)]; simp; done) | (unfold av; simp_all; done)),hb⟩⟩
 have h2p := neF h2
 refine kRD 7 [2,3,25] [(25,aB (a.l != b.l))] <| kP 25 (a.l != b.l) (fun h3 => ?_) (fun h3 => ?_)
 have h3p := neT h3
 refine bk [2,3,33] [(33,aB true)] <| kT <| kQ <| aS [4] [(4,aB false)] ?_
 refine kR ?_
 exact ⟨[.bool false],by kernel_rfl,fun w' hb hf => ⟨am (show (false : Bool) = av a b from by first | (unfold av; rw [hnow]; simp; done) | (unfold av; rw [hallw]; simp_all; done) | (unfold av; rw [ay (a := a.rows) (by omega)]; simp; done) | (unfold av; simp_all; done)),hb⟩⟩
 have h3p := neF h3
 refine bk [2,3,33] [(33,aB (((a.rows.length : Nat) : Int) != ((b.rows.length : Nat) : Int)))] <| kC (((a.rows.length : Nat) : Int) != ((b.rows.length : Nat) : Int)) (fun h4 => ?_) (fun h4 => ?_)
 have h4p := neT h4
 refine kQ <| aS [4] [(4,aB false)] <| kR ?_
 exact ⟨[.bool false],by kernel_rfl,fun w' hb hf => ⟨am (show (false : Bool) = av a b from by first | (unfold av; rw [hnow]; simp; done) | (unfold av; rw [hallw]; simp_all; done) | (unfold av; rw [ay (a := a.rows) (by omega)]; simp; done) | (unfold av; simp_all; done)),hb⟩⟩
 have h4p := neF h4
 refine kK <| kS <| kQ <| bk [2,3,5] [(5,aI 0)] ?_
 refine aa ?_
 have hlenw : a.rows.length = b.rows.length := by omega
 refine bd (α := {x : Nat // (fun (kw : Nat) => kw ≤ a.rows.length ∧ ∀ (i : Nat) (x y : Mrw),i < kw → a.rows[i]? = some x → b.rows[i]? = some y → cy x y = true) x}) (fun x => (fun (kw : Nat) => (⟨[(2,.p 0 0),(3,.p 1 0),(5,aI (kw : Int))],[⟨41,aW a (.slice Aar a.rows.length Car)⟩,⟨41,aW b (.slice Abr b.rows.length Cbr)⟩],[],[a9 (.slice Aar a.rows.length Car) 2 (a.rows.map a5),a9 (.slice Abr b.rows.length Cbr) 2 (b.rows.map a5)]⟩ : St)) x.1) (fun x => a.rows.length - x.1) ⟨(0),⟨Nat.zero_le _,fun i x y hi => by omega⟩⟩ (kF 2 0 [2,3,5]) ?_
 rintro ⟨kw,hkw,HKw⟩
 try dsimp only
 try dsimp only at hkw HKw
 refine kS <| kQ <| bk [2,3,5,38] [(38,aB (decide ((kw : Int) < ((a.rows.length : Nat) : Int))))] <| kC (decide ((kw : Int) < ((a.rows.length : Nat) : Int))) (fun h5 => ?_) (fun h5 => ?_)
 have h5p := of_decide_eq_true h5
 have hltw : kw < a.rows.length := by simpa using h5
 obtain ⟨xw,hxw⟩ : ∃ x,a.rows[kw]? = some x := ⟨_,List.getElem?_eq_getElem hltw⟩
 obtain ⟨yw,hyw⟩ : ∃ y,b.rows[kw]? = some y := ⟨_,List.getElem?_eq_getElem (by omega)⟩
 refine kK <| kS <| aa <| kS <| cw ?_
 refine bj (K := 2) (j := kw) [.string xw.input,iI xw.value] (a9 (.slice Aar a.rows.length Car) 2 (a.rows.map a5)) (fun _ _ h => h) (by simp) (fun w h => h) (fun b h => h) (by simp only [List.getElem?_map,hxw]; rfl) (fun bq6 offq6 hAq6 => ?_)
 refine bj (K := 2) (j := kw) [.string yw.input,iI yw.value] (a9 (.slice Abr b.rows.length Cbr) 2 (b.rows.map a5)) (fun _ _ h => h) (by simp) (fun w h => h) (fun b h => h) (by simp only [List.getElem?_map,hyw]; rfl) (fun bq7 offq7 hAq7 => ?_)
 refine bg [] (by kernel_rfl) (fun ρ σ hq8 => ?_)
 refine kTD [0,1,2,5,6,7] [48,47,43,42,2,3,5] 5 [(48,aI (kw : Int)),(47,.v (.slice Abr b.rows.length Cbr)),(43,aI (kw : Int)),(42,.v (.slice Aar a.rows.length Car))] <| aA (kd := .i64) (T := 39) (e := 141) (K := 2) (j := kw) (A := Aar) (len := a.rows.length) (cap := Car) 3 0 _ rfl (by kernel_rfl) (by kernel_rfl) (by kernel_rfl) (fun _ _ h => h) (by kernel_rfl) rfl rfl (by kernel_rfl) (by kernel_rfl) (by kernel_rfl) (by kernel_rfl) hltw hAq6 hq8.1.2 (by kernel_rfl) rfl ?_
 refine kTD [4] [45,48,47,2,3,5] 3 [(45,.v (.agg (mrwL xw).toArray))] <| aA (kd := .i64) (T := 39) (e := 141) (K := 2) (j := kw) (A := Abr) (len := b.rows.length) (cap := Cbr) 8 1 _ rfl (by kernel_rfl) (by kernel_rfl) (by kernel_rfl) (fun _ _ h => h) (by kernel_rfl) rfl rfl (by kernel_rfl) (by kernel_rfl) (by kernel_rfl) (by kernel_rfl) (by omega) hAq7 hq8.2 (by kernel_rfl) rfl ?_
 refine kTD [9] [50,45,2,3,5] 1 [(50,.v (.agg (mrwL yw).toArray))] <| kX 10 (.bool (!cy xw yw)) rfl (fun _ _ ww hA => bU hA rfl (by kernel_rfl) (by kernel_rfl) (bX (by kernel_rfl) (run_neq_MRW xw.input xw.value yw.input yw.value ww))) ?_
 refine kZ <| kC (!cy xw yw) (fun h9 => ?_) (fun h9 => ?_)
 have hnow := bH hxw hyw (by simpa using h9)
 refine kQ <| aS [4] [(4,aB false)] <| kR ?_
 exact ⟨[.bool false],by kernel_rfl,fun w' hb hf => ⟨am (show (false : Bool) = av a b from by first | (unfold av; rw [hnow]; simp; done) | (unfold av; rw [hallw]; simp_all; done) | (unfold av; rw [ay (a := a.rows) (by omega)]; simp; done) | (unfold av; simp_all; done)),hb⟩⟩
 have hyew : cy xw yw = true := by simpa using h9
 refine kK <| kG <| co 3 [2,3,5] [(2,.p 0 0),(3,.p 1 0),(5,aI (K6.wrap ((kw : Int) + 1)))] <| xl_eqS (t' := [(2,.p 0 0),(3,.p 1 0),(5,aI ((kw : Int) + 1))]) (by rw [show (K6.wrap ((kw : Int) + 1)) = ((kw : Int) + 1) from bf (by omega) (by omega)]) ?_
 refine bk [2,3,5] [] ?_
 exact ⟨⟨(kw + 1),⟨by omega,cx hxw hyw hyew HKw⟩⟩,kF 2 0 [2,3,5],by show a.rows.length - (kw + 1) < a.rows.length - kw; omega⟩
 have h5p := of_decide_eq_false h5
 have hgew : kw = a.rows.length := by simp at h5; omega
 have hallw := bm hgew hlenw HKw
 refine bD <| kQ <| aS [4] [(4,aB true)] <| kR ?_
 exact ⟨[.bool true],by kernel_rfl,fun w' hb hf => ⟨am (show (true : Bool) = av a b from by first | (unfold av; rw [hnow]; simp; done) | (unfold av; rw [hallw]; simp_all; done) | (unfold av; rw [ay (a := a.rows) (by omega)]; simp; done) | (unfold av; simp_all; done)),hb⟩⟩
theorem yiSameMac_c (a : Mac) (a_rowsV : Value) (b : Mac) (b_rowsV : Value) (w : World) (hl_a_rowsV : Sl w a_rowsV 2 (a.rows.map a5)) (hl_b_rowsV : Sl w b_rowsV 2 (b.rows.map a5))  : Calls Try.prog 65 #[.agg (aW a a_rowsV).toArray, .agg (aW b b_rowsV).toArray] w fun e w' => e = .returned (.bool (av a b)) ∧ Below w.heap.size w w' := by
 obtain ⟨Aar,Car,hvar⟩ := hl_a_rowsV.form
 rw [List.length_map] at hvar; subst hvar
 have hnar := hl_a_rowsV.len; rw [List.length_map] at hnar
 have hqar := Sl.capLe hl_a_rowsV
 obtain ⟨Abr,Cbr,hvbr⟩ := hl_b_rowsV.form
 rw [List.length_map] at hvbr; subst hvbr
 have hnbr := hl_b_rowsV.len; rw [List.length_map] at hnbr
 have hqbr := Sl.capLe hl_b_rowsV
 refine ad (args := [.agg (aW a (.slice Aar a.rows.length Car)).toArray,.agg (aW b (.slice Abr b.rows.length Cbr)).toArray]) (fn := Try.f65) [a9 (.slice Aar a.rows.length Car) 2 (a.rows.map a5),a9 (.slice Abr b.rows.length Cbr) 2 (b.rows.map a5)] Try.func65 rfl Try.ntmps65 rfl (by simp only [List.mem_cons,List.not_mem_nil,or_false,forall_eq_or_imp,forall_eq]; exact ⟨⟨rfl,hl_a_rowsV⟩,⟨rfl,hl_b_rowsV⟩⟩) ?_
 refine kQ <| ct [2,3] ⟨[(2,.p 0 0),(3,.p 1 0)],[⟨41,aW a (.slice Aar a.rows.length Car)⟩,⟨41,aW b (.slice Abr b.rows.length Cbr)⟩],[],[a9 (.slice Aar a.rows.length Car) 2 (a.rows.map a5),a9 (.slice Abr b.rows.length Cbr) 2 (b.rows.map a5)]⟩ <| kS <| cn ⟨[(4,aB ((a.use == b.use) && ((a.k == b.k) && ((a.l == b.l) && (al cy a.rows b.rows)))))],[⟨41,aW a (.slice Aar a.rows.length Car)⟩,⟨41,aW b (.slice Abr b.rows.length Cbr)⟩],[],[a9 (.slice Aar a.rows.length Car) 2 (a.rows.map a5),a9 (.slice Abr b.rows.length Cbr) 2 (b.rows.map a5)]⟩ ?_ ?_
 refine kG <| co 6 [2,3,10] [(2,.p 0 0),(3,.p 1 0),(10,aB (a.use == b.use))] <| kP 10 (a.use == b.use) (fun h1 => ?_) (fun h1 => ?_)
 have h1p := eqT h1
 refine co 7 [2,3,17] [(2,.p 0 0),(3,.p 1 0),(17,aB (a.k == b.k))] <| kP 17 (a.k == b.k) (fun h2 => ?_) (fun h2 => ?_)
 have h2p := eqT h2
 refine co 7 [2,3,24] [(2,.p 0 0),(3,.p 1 0),(24,aB (a.l == b.l))] <| kP 24 (a.l == b.l) (fun h3 => ?_) (fun h3 => ?_)
 have h3p := eqT h3
 refine kCS 4 [24,26,28] [(24,aB true),(26,.v (.slice Aar a.rows.length Car)),(28,.v (.slice Abr b.rows.length Cbr))] 102 [.slice Aar a.rows.length Car,.slice Abr b.rows.length Cbr] (some 29) rfl (bL fun ww hf => yEqualMacRow_c a.rows (.slice Aar a.rows.length Car) b.rows (.slice Abr b.rows.length Cbr) ww (hf _ m0) (hf _ m1) ) ?_
 intro _
 refine aS [4] [(4,aB (al cy a.rows b.rows))] ?_
 show Wk _ _
 try rw [h1]
 try rw [h2]
 try rw [h3]
 exact kF 2 0 [4]
 have h3p := eqF h3
 refine aS [4] [(4,aB false)] ?_
 show Wk _ _
 try rw [h1]
 try rw [h2]
 try rw [h3]
 exact kF 2 0 [4]
 have h2p := eqF h2
 refine aS [4] [(4,aB false)] ?_
 show Wk _ _
 try rw [h1]
 try rw [h2]
 exact kF 2 0 [4]
 have h1p := eqF h1
 refine aS [4] [(4,aB false)] ?_
 show Wk _ _
 try rw [h1]
 exact kF 2 0 [4]
 refine kR ?_
 exact ⟨[.bool ((a.use == b.use) && ((a.k == b.k) && ((a.l == b.l) && (al cy a.rows b.rows))))],by kernel_rfl,fun w' hb hf => ⟨am (show ((a.use == b.use) && ((a.k == b.k) && ((a.l == b.l) && (al cy a.rows b.rows))) : Bool) = av a b from by first | rfl | (simp [av, *]; done)),hb⟩⟩
theorem ysSameKeys_c (a : Kys) (a_now_rowsV : Value) (a_before_rowsV : Value) (b : Kys) (b_now_rowsV : Value) (b_before_rowsV : Value) (w : World) (hl_a_now_rowsV : Sl w a_now_rowsV 2 (a.now.rows.map a5)) (hl_a_before_rowsV : Sl w a_before_rowsV 2 (a.before.rows.map a5)) (hl_b_now_rowsV : Sl w b_now_rowsV 2 (b.now.rows.map a5)) (hl_b_before_rowsV : Sl w b_before_rowsV 2 (b.before.rows.map a5))  : Calls Try.prog 21 #[.agg (aC a a_now_rowsV a_before_rowsV).toArray, .agg (aC b b_now_rowsV b_before_rowsV).toArray] w fun e w' => e = .returned (.bool (aG a b)) ∧ Below w.heap.size w w' := by
 obtain ⟨Aanr,Canr,hvanr⟩ := hl_a_now_rowsV.form
 rw [List.length_map] at hvanr; subst hvanr
 have hnanr := hl_a_now_rowsV.len; rw [List.length_map] at hnanr
 have hqanr := Sl.capLe hl_a_now_rowsV
 obtain ⟨Aabr,Cabr,hvabr⟩ := hl_a_before_rowsV.form
 rw [List.length_map] at hvabr; subst hvabr
 have hnabr := hl_a_before_rowsV.len; rw [List.length_map] at hnabr
 have hqabr := Sl.capLe hl_a_before_rowsV
 obtain ⟨Abnr,Cbnr,hvbnr⟩ := hl_b_now_rowsV.form
 rw [List.length_map] at hvbnr; subst hvbnr
 have hnbnr := hl_b_now_rowsV.len; rw [List.length_map] at hnbnr
 have hqbnr := Sl.capLe hl_b_now_rowsV
 obtain ⟨Abbr,Cbbr,hvbbr⟩ := hl_b_before_rowsV.form
 rw [List.length_map] at hvbbr; subst hvbbr
 have hnbbr := hl_b_before_rowsV.len; rw [List.length_map] at hnbbr
 have hqbbr := Sl.capLe hl_b_before_rowsV
 refine ad (args := [.agg (aC a (.slice Aanr a.now.rows.length Canr) (.slice Aabr a.before.rows.length Cabr)).toArray,.agg (aC b (.slice Abnr b.now.rows.length Cbnr) (.slice Abbr b.before.rows.length Cbbr)).toArray]) (fn := Try.f21) [a9 (.slice Aanr a.now.rows.length Canr) 2 (a.now.rows.map a5),a9 (.slice Aabr a.before.rows.length Cabr) 2 (a.before.rows.map a5),a9 (.slice Abnr b.now.rows.length Cbnr) 2 (b.now.rows.map a5),a9 (.slice Abbr b.before.rows.length Cbbr) 2 (b.before.rows.map a5)] Try.func21 rfl Try.ntmps21 rfl (by simp only [List.mem_cons,List.not_mem_nil,or_false,forall_eq_or_imp,forall_eq]; exact ⟨⟨rfl,hl_a_now_rowsV⟩,⟨rfl,hl_a_before_rowsV⟩,⟨rfl,hl_b_now_rowsV⟩,⟨rfl,hl_b_before_rowsV⟩⟩) ?_
 refine kQ <| ct [2,3] ⟨[(2,.p 0 0),(3,.p 1 0)],[⟨43,aC a (.slice Aanr a.now.rows.length Canr) (.slice Aabr a.before.rows.length Cabr)⟩,⟨43,aC b (.slice Abnr b.now.rows.length Cbnr) (.slice Abbr b.before.rows.length Cbbr)⟩],[],[a9 (.slice Aanr a.now.rows.length Canr) 2 (a.now.rows.map a5),a9 (.slice Aabr a.before.rows.length Cabr) 2 (a.before.rows.map a5),a9 (.slice Abnr b.now.rows.length Cbnr) 2 (b.now.rows.map a5),a9 (.slice Abbr b.before.rows.length Cbbr) 2 (b.before.rows.map a5)]⟩ <| kS <| cn ⟨[(4,aB ((a.epoch == b.epoch) && ((a.two == b.two) && ((av a.now b.now) && (av a.before b.before)))))],[⟨43,aC a (.slice Aanr a.now.rows.length Canr) (.slice Aabr a.before.rows.length Cabr)⟩,⟨43,aC b (.slice Abnr b.now.rows.length Cbnr) (.slice Abbr b.before.rows.length Cbbr)⟩],[],[a9 (.slice Aanr a.now.rows.length Canr) 2 (a.now.rows.map a5),a9 (.slice Aabr a.before.rows.length Cabr) 2 (a.before.rows.map a5),a9 (.slice Abnr b.now.rows.length Cbnr) 2 (b.now.rows.map a5),a9 (.slice Abbr b.before.rows.length Cbbr) 2 (b.before.rows.map a5)]⟩ ?_ ?_
 refine kG <| co 6 [2,3,10] [(2,.p 0 0),(3,.p 1 0),(10,aB (a.epoch == b.epoch))] <| kP 10 (a.epoch == b.epoch) (fun h1 => ?_) (fun h1 => ?_)
 have h1p := eqT h1
 refine co 7 [2,3,17] [(2,.p 0 0),(3,.p 1 0),(17,aB (a.two == b.two))] <| kP 17 (a.two == b.two) (fun h2 => ?_) (fun h2 => ?_)
 have h2p := eqT h2
 refine kCS 4 [2,3,17,19,21] [(2,.p 0 0),(3,.p 1 0),(17,aB true),(19,.v (.agg (aW a.now (.slice Aanr a.now.rows.length Canr)).toArray)),(21,.v (.agg (aW b.now (.slice Abnr b.now.rows.length Cbnr)).toArray))] 59 [.agg (aW a.now (.slice Aanr a.now.rows.length Canr)).toArray,.agg (aW b.now (.slice Abnr b.now.rows.length Cbnr)).toArray] (some 22) rfl (bL fun ww hf => ysSameMac_c a.now (.slice Aanr a.now.rows.length Canr) b.now (.slice Abnr b.now.rows.length Cbnr) ww (hf _ m0) (hf _ m2) ) ?_
 intro _
 refine co 2 [2,3,24] [(2,.p 0 0),(3,.p 1 0),(24,aB (av a.now b.now))] <| kP 24 (av a.now b.now) (fun h3 => ?_) (fun h3 => ?_)
 refine kCS 4 [24,26,28] [(24,aB true),(26,.v (.agg (aW a.before (.slice Aabr a.before.rows.length Cabr)).toArray)),(28,.v (.agg (aW b.before (.slice Abbr b.before.rows.length Cbbr)).toArray))] 59 [.agg (aW a.before (.slice Aabr a.before.rows.length Cabr)).toArray,.agg (aW b.before (.slice Abbr b.before.rows.length Cbbr)).toArray] (some 29) rfl (bL fun ww hf => ysSameMac_c a.before (.slice Aabr a.before.rows.length Cabr) b.before (.slice Abbr b.before.rows.length Cbbr) ww (hf _ m1) (hf _ m3) ) ?_
 intro _
 refine aS [4] [(4,aB (av a.before b.before))] ?_
 show Wk _ _
 try rw [h1]
 try rw [h2]
 try rw [h3]
 exact kF 2 0 [4]
 refine aS [4] [(4,aB false)] ?_
 show Wk _ _
 try rw [h1]
 try rw [h2]
 try rw [h3]
 exact kF 2 0 [4]
 have h2p := eqF h2
 refine aS [4] [(4,aB false)] ?_
 show Wk _ _
 try rw [h1]
 try rw [h2]
 exact kF 2 0 [4]
 have h1p := eqF h1
 refine aS [4] [(4,aB false)] ?_
 show Wk _ _
 try rw [h1]
 exact kF 2 0 [4]
 refine kR ?_
 exact ⟨[.bool ((a.epoch == b.epoch) && ((a.two == b.two) && ((av a.now b.now) && (av a.before b.before))))],by kernel_rfl,fun w' hb hf => ⟨am (show ((a.epoch == b.epoch) && ((a.two == b.two) && ((av a.now b.now) && (av a.before b.before))) : Bool) = aG a b from by first | rfl | (simp [aG, *]; done)),hb⟩⟩
theorem yiSameKeys_c (a : Kys) (a_now_rowsV : Value) (a_before_rowsV : Value) (b : Kys) (b_now_rowsV : Value) (b_before_rowsV : Value) (w : World) (hl_a_now_rowsV : Sl w a_now_rowsV 2 (a.now.rows.map a5)) (hl_a_before_rowsV : Sl w a_before_rowsV 2 (a.before.rows.map a5)) (hl_b_now_rowsV : Sl w b_now_rowsV 2 (b.now.rows.map a5)) (hl_b_before_rowsV : Sl w b_before_rowsV 2 (b.before.rows.map a5))  : Calls Try.prog 28 #[.agg (aC a a_now_rowsV a_before_rowsV).toArray, .agg (aC b b_now_rowsV b_before_rowsV).toArray] w fun e w' => e = .returned (.bool (aG a b)) ∧ Below w.heap.size w w' := by
 obtain ⟨Aanr,Canr,hvanr⟩ := hl_a_now_rowsV.form
 rw [List.length_map] at hvanr; subst hvanr
 have hnanr := hl_a_now_rowsV.len; rw [List.length_map] at hnanr
 have hqanr := Sl.capLe hl_a_now_rowsV
 obtain ⟨Aabr,Cabr,hvabr⟩ := hl_a_before_rowsV.form
 rw [List.length_map] at hvabr; subst hvabr
 have hnabr := hl_a_before_rowsV.len; rw [List.length_map] at hnabr
 have hqabr := Sl.capLe hl_a_before_rowsV
 obtain ⟨Abnr,Cbnr,hvbnr⟩ := hl_b_now_rowsV.form
 rw [List.length_map] at hvbnr; subst hvbnr
 have hnbnr := hl_b_now_rowsV.len; rw [List.length_map] at hnbnr
 have hqbnr := Sl.capLe hl_b_now_rowsV
 obtain ⟨Abbr,Cbbr,hvbbr⟩ := hl_b_before_rowsV.form
 rw [List.length_map] at hvbbr; subst hvbbr
 have hnbbr := hl_b_before_rowsV.len; rw [List.length_map] at hnbbr
 have hqbbr := Sl.capLe hl_b_before_rowsV
 refine ad (args := [.agg (aC a (.slice Aanr a.now.rows.length Canr) (.slice Aabr a.before.rows.length Cabr)).toArray,.agg (aC b (.slice Abnr b.now.rows.length Cbnr) (.slice Abbr b.before.rows.length Cbbr)).toArray]) (fn := Try.f28) [a9 (.slice Aanr a.now.rows.length Canr) 2 (a.now.rows.map a5),a9 (.slice Aabr a.before.rows.length Cabr) 2 (a.before.rows.map a5),a9 (.slice Abnr b.now.rows.length Cbnr) 2 (b.now.rows.map a5),a9 (.slice Abbr b.before.rows.length Cbbr) 2 (b.before.rows.map a5)] Try.func28 rfl Try.ntmps28 rfl (by simp only [List.mem_cons,List.not_mem_nil,or_false,forall_eq_or_imp,forall_eq]; exact ⟨⟨rfl,hl_a_now_rowsV⟩,⟨rfl,hl_a_before_rowsV⟩,⟨rfl,hl_b_now_rowsV⟩,⟨rfl,hl_b_before_rowsV⟩⟩) ?_
 refine kQ <| ct [2,3] ⟨[(2,.p 0 0),(3,.p 1 0)],[⟨43,aC a (.slice Aanr a.now.rows.length Canr) (.slice Aabr a.before.rows.length Cabr)⟩,⟨43,aC b (.slice Abnr b.now.rows.length Cbnr) (.slice Abbr b.before.rows.length Cbbr)⟩],[],[a9 (.slice Aanr a.now.rows.length Canr) 2 (a.now.rows.map a5),a9 (.slice Aabr a.before.rows.length Cabr) 2 (a.before.rows.map a5),a9 (.slice Abnr b.now.rows.length Cbnr) 2 (b.now.rows.map a5),a9 (.slice Abbr b.before.rows.length Cbbr) 2 (b.before.rows.map a5)]⟩ <| kS <| cn ⟨[(4,aB ((a.epoch == b.epoch) && ((a.two == b.two) && ((av a.now b.now) && (av a.before b.before)))))],[⟨43,aC a (.slice Aanr a.now.rows.length Canr) (.slice Aabr a.before.rows.length Cabr)⟩,⟨43,aC b (.slice Abnr b.now.rows.length Cbnr) (.slice Abbr b.before.rows.length Cbbr)⟩],[],[a9 (.slice Aanr a.now.rows.length Canr) 2 (a.now.rows.map a5),a9 (.slice Aabr a.before.rows.length Cabr) 2 (a.before.rows.map a5),a9 (.slice Abnr b.now.rows.length Cbnr) 2 (b.now.rows.map a5),a9 (.slice Abbr b.before.rows.length Cbbr) 2 (b.before.rows.map a5)]⟩ ?_ ?_
 refine kG <| co 6 [2,3,10] [(2,.p 0 0),(3,.p 1 0),(10,aB (a.epoch == b.epoch))] <| kP 10 (a.epoch == b.epoch) (fun h1 => ?_) (fun h1 => ?_)
 have h1p := eqT h1
 refine co 7 [2,3,17] [(2,.p 0 0),(3,.p 1 0),(17,aB (a.two == b.two))] <| kP 17 (a.two == b.two) (fun h2 => ?_) (fun h2 => ?_)
 have h2p := eqT h2
 refine kCS 4 [2,3,17,19,21] [(2,.p 0 0),(3,.p 1 0),(17,aB true),(19,.v (.agg (aW a.now (.slice Aanr a.now.rows.length Canr)).toArray)),(21,.v (.agg (aW b.now (.slice Abnr b.now.rows.length Cbnr)).toArray))] 65 [.agg (aW a.now (.slice Aanr a.now.rows.length Canr)).toArray,.agg (aW b.now (.slice Abnr b.now.rows.length Cbnr)).toArray] (some 22) rfl (bL fun ww hf => yiSameMac_c a.now (.slice Aanr a.now.rows.length Canr) b.now (.slice Abnr b.now.rows.length Cbnr) ww (hf _ m0) (hf _ m2) ) ?_
 intro _
 refine co 2 [2,3,24] [(2,.p 0 0),(3,.p 1 0),(24,aB (av a.now b.now))] <| kP 24 (av a.now b.now) (fun h3 => ?_) (fun h3 => ?_)
 refine kCS 4 [24,26,28] [(24,aB true),(26,.v (.agg (aW a.before (.slice Aabr a.before.rows.length Cabr)).toArray)),(28,.v (.agg (aW b.before (.slice Abbr b.before.rows.length Cbbr)).toArray))] 65 [.agg (aW a.before (.slice Aabr a.before.rows.length Cabr)).toArray,.agg (aW b.before (.slice Abbr b.before.rows.length Cbbr)).toArray] (some 29) rfl (bL fun ww hf => yiSameMac_c a.before (.slice Aabr a.before.rows.length Cabr) b.before (.slice Abbr b.before.rows.length Cbbr) ww (hf _ m1) (hf _ m3) ) ?_
 intro _
 refine aS [4] [(4,aB (av a.before b.before))] ?_
 show Wk _ _
 try rw [h1]
 try rw [h2]
 try rw [h3]
 exact kF 2 0 [4]
 refine aS [4] [(4,aB false)] ?_
 show Wk _ _
 try rw [h1]
 try rw [h2]
 try rw [h3]
 exact kF 2 0 [4]
 have h2p := eqF h2
 refine aS [4] [(4,aB false)] ?_
 show Wk _ _
 try rw [h1]
 try rw [h2]
 exact kF 2 0 [4]
 have h1p := eqF h1
 refine aS [4] [(4,aB false)] ?_
 show Wk _ _
 try rw [h1]
 exact kF 2 0 [4]
 refine kR ?_
 exact ⟨[.bool ((a.epoch == b.epoch) && ((a.two == b.two) && ((av a.now b.now) && (av a.before b.before))))],by kernel_rfl,fun w' hb hf => ⟨am (show ((a.epoch == b.epoch) && ((a.two == b.two) && ((av a.now b.now) && (av a.before b.before))) : Bool) = aG a b from by first | rfl | (simp [aG, *]; done)),hb⟩⟩
theorem ysSameDoor_c (a : Dor) (a_keys_now_rowsV : Value) (a_keys_before_rowsV : Value) (a_halvesV : Value) (a_table_connsV : Value) (a_table_waitingV : Value) (b : Dor) (b_keys_now_rowsV : Value) (b_keys_before_rowsV : Value) (b_halvesV : Value) (b_table_connsV : Value) (b_table_waitingV : Value) (w : World) (hl_a_keys_now_rowsV : Sl w a_keys_now_rowsV 2 (a.keys.now.rows.map a5)) (hl_a_keys_before_rowsV : Sl w a_keys_before_rowsV 2 (a.keys.before.rows.map a5)) (hl_a_halvesV : Sl w a_halvesV 13 (a.halves.map a8)) (hl_a_table_connsV : Sl w a_table_connsV 25 (a.table.conns.map ar)) (hh_a_table_connsV : ∀ x ∈ a.table.conns, Sl w x.2 2 (x.1.r.held.map pC)) (hl_a_table_waitingV : Sl w a_table_waitingV 3 (a.table.waiting.map a7)) (hl_b_keys_now_rowsV : Sl w b_keys_now_rowsV 2 (b.keys.now.rows.map a5)) (hl_b_keys_before_rowsV : Sl w b_keys_before_rowsV 2 (b.keys.before.rows.map a5)) (hl_b_halvesV : Sl w b_halvesV 13 (b.halves.map a8)) (hl_b_table_connsV : Sl w b_table_connsV 25 (b.table.conns.map ar)) (hh_b_table_connsV : ∀ x ∈ b.table.conns, Sl w x.2 2 (x.1.r.held.map pC)) (hl_b_table_waitingV : Sl w b_table_waitingV 3 (b.table.waiting.map a7))  : Calls Try.prog 7 #[.agg (aZ a a_keys_now_rowsV a_keys_before_rowsV a_halvesV a_table_connsV a_table_waitingV).toArray, .agg (aZ b b_keys_now_rowsV b_keys_before_rowsV b_halvesV b_table_connsV b_table_waitingV).toArray] w fun e w' => e = .returned (.bool (b0 a b)) ∧ Below w.heap.size w w' := by
 obtain ⟨Aaknr,Caknr,hvaknr⟩ := hl_a_keys_now_rowsV.form
 rw [List.length_map] at hvaknr; subst hvaknr
 have hnaknr := hl_a_keys_now_rowsV.len; rw [List.length_map] at hnaknr
 have hqaknr := Sl.capLe hl_a_keys_now_rowsV
 obtain ⟨Aakbr,Cakbr,hvakbr⟩ := hl_a_keys_before_rowsV.form
 rw [List.length_map] at hvakbr; subst hvakbr
 have hnakbr := hl_a_keys_before_rowsV.len; rw [List.length_map] at hnakbr
 have hqakbr := Sl.capLe hl_a_keys_before_rowsV
 obtain ⟨Aah,Cah,hvah⟩ := hl_a_halvesV.form
 rw [List.length_map] at hvah; subst hvah
 have hnah := hl_a_halvesV.len; rw [List.length_map] at hnah
 have hqah := Sl.capLe hl_a_halvesV
 obtain ⟨Aatc,Catc,hvatc⟩ := hl_a_table_connsV.form
 rw [List.length_map] at hvatc; subst hvatc
 have hnatc := hl_a_table_connsV.len; rw [List.length_map] at hnatc
 have hqatc := Sl.capLe hl_a_table_connsV
 obtain ⟨Aatw,Catw,hvatw⟩ := hl_a_table_waitingV.form
 rw [List.length_map] at hvatw; subst hvatw
 have hnatw := hl_a_table_waitingV.len; rw [List.length_map] at hnatw
 have hqatw := Sl.capLe hl_a_table_waitingV
 obtain ⟨Abknr,Cbknr,hvbknr⟩ := hl_b_keys_now_rowsV.form
 rw [List.length_map] at hvbknr; subst hvbknr
 have hnbknr := hl_b_keys_now_rowsV.len; rw [List.length_map] at hnbknr
 have hqbknr := Sl.capLe hl_b_keys_now_rowsV
 obtain ⟨Abkbr,Cbkbr,hvbkbr⟩ := hl_b_keys_before_rowsV.form
 rw [List.length_map] at hvbkbr; subst hvbkbr
 have hnbkbr := hl_b_keys_before_rowsV.len; rw [List.length_map] at hnbkbr
 have hqbkbr := Sl.capLe hl_b_keys_before_rowsV
 obtain ⟨Abh,Cbh,hvbh⟩ := hl_b_halvesV.form
 rw [List.length_map] at hvbh; subst hvbh
 have hnbh := hl_b_halvesV.len; rw [List.length_map] at hnbh
 have hqbh := Sl.capLe hl_b_halvesV
 obtain ⟨Abtc,Cbtc,hvbtc⟩ := hl_b_table_connsV.form
 rw [List.length_map] at hvbtc; subst hvbtc
 have hnbtc := hl_b_table_connsV.len; rw [List.length_map] at hnbtc
 have hqbtc := Sl.capLe hl_b_table_connsV
 obtain ⟨Abtw,Cbtw,hvbtw⟩ := hl_b_table_waitingV.form
 rw [List.length_map] at hvbtw; subst hvbtw
 have hnbtw := hl_b_table_waitingV.len; rw [List.length_map] at hnbtw
 have hqbtw := Sl.capLe hl_b_table_waitingV
 refine ad (args := [.agg (aZ a (.slice Aaknr a.keys.now.rows.length Caknr) (.slice Aakbr a.keys.before.rows.length Cakbr) (.slice Aah a.halves.length Cah) (.slice Aatc a.table.conns.length Catc) (.slice Aatw a.table.waiting.length Catw)).toArray,.agg (aZ b (.slice Abknr b.keys.now.rows.length Cbknr) (.slice Abkbr b.keys.before.rows.length Cbkbr) (.slice Abh b.halves.length Cbh) (.slice Abtc b.table.conns.length Cbtc) (.slice Abtw b.table.waiting.length Cbtw)).toArray]) (fn := Try.f7) [a9 (.slice Aaknr a.keys.now.rows.length Caknr) 2 (a.keys.now.rows.map a5),a9 (.slice Aakbr a.keys.before.rows.length Cakbr) 2 (a.keys.before.rows.map a5),a9 (.slice Aah a.halves.length Cah) 13 (a.halves.map a8),a9 (.slice Aatc a.table.conns.length Catc) 25 (a.table.conns.map ar),ac a.table.conns,a9 (.slice Aatw a.table.waiting.length Catw) 3 (a.table.waiting.map a7),a9 (.slice Abknr b.keys.now.rows.length Cbknr) 2 (b.keys.now.rows.map a5),a9 (.slice Abkbr b.keys.before.rows.length Cbkbr) 2 (b.keys.before.rows.map a5),a9 (.slice Abh b.halves.length Cbh) 13 (b.halves.map a8),a9 (.slice Abtc b.table.conns.length Cbtc) 25 (b.table.conns.map ar),ac b.table.conns,a9 (.slice Abtw b.table.waiting.length Cbtw) 3 (b.table.waiting.map a7)] Try.func7 rfl Try.ntmps7 rfl (by simp only [List.mem_cons,List.not_mem_nil,or_false,forall_eq_or_imp,forall_eq]; exact ⟨⟨rfl,hl_a_keys_now_rowsV⟩,⟨rfl,hl_a_keys_before_rowsV⟩,⟨rfl,hl_a_halvesV⟩,⟨rfl,hl_a_table_connsV⟩,⟨rfl,hh_a_table_connsV⟩,⟨rfl,hl_a_table_waitingV⟩,⟨rfl,hl_b_keys_now_rowsV⟩,⟨rfl,hl_b_keys_before_rowsV⟩,⟨rfl,hl_b_halvesV⟩,⟨rfl,hl_b_table_connsV⟩,⟨rfl,hh_b_table_connsV⟩,⟨rfl,hl_b_table_waitingV⟩⟩) ?_
 refine kQ <| ct [2,3] ⟨[(2,.p 0 0),(3,.p 1 0)],[⟨51,aZ a (.slice Aaknr a.keys.now.rows.length Caknr) (.slice Aakbr a.keys.before.rows.length Cakbr) (.slice Aah a.halves.length Cah) (.slice Aatc a.table.conns.length Catc) (.slice Aatw a.table.waiting.length Catw)⟩,⟨51,aZ b (.slice Abknr b.keys.now.rows.length Cbknr) (.slice Abkbr b.keys.before.rows.length Cbkbr) (.slice Abh b.halves.length Cbh) (.slice Abtc b.table.conns.length Cbtc) (.slice Abtw b.table.waiting.length Cbtw)⟩],[],[a9 (.slice Aaknr a.keys.now.rows.length Caknr) 2 (a.keys.now.rows.map a5),a9 (.slice Aakbr a.keys.before.rows.length Cakbr) 2 (a.keys.before.rows.map a5),a9 (.slice Aah a.halves.length Cah) 13 (a.halves.map a8),a9 (.slice Aatc a.table.conns.length Catc) 25 (a.table.conns.map ar),ac a.table.conns,a9 (.slice Aatw a.table.waiting.length Catw) 3 (a.table.waiting.map a7),a9 (.slice Abknr b.keys.now.rows.length Cbknr) 2 (b.keys.now.rows.map a5),a9 (.slice Abkbr b.keys.before.rows.length Cbkbr) 2 (b.keys.before.rows.map a5),a9 (.slice Abh b.halves.length Cbh) 13 (b.halves.map a8),a9 (.slice Abtc b.table.conns.length Cbtc) 25 (b.table.conns.map ar),ac b.table.conns,a9 (.slice Abtw b.table.waiting.length Cbtw) 3 (b.table.waiting.map a7)]⟩ <| kS <| cn ⟨[(4,aB ((a.port == b.port) && ((a.clock == b.clock) && ((aG a.keys b.keys) && ((cg a.lim b.lim) && ((al bl a.halves b.halves) && ((az a.table b.table) && (a.chal == b.chal))))))))],[⟨51,aZ a (.slice Aaknr a.keys.now.rows.length Caknr) (.slice Aakbr a.keys.before.rows.length Cakbr) (.slice Aah a.halves.length Cah) (.slice Aatc a.table.conns.length Catc) (.slice Aatw a.table.waiting.length Catw)⟩,⟨51,aZ b (.slice Abknr b.keys.now.rows.length Cbknr) (.slice Abkbr b.keys.before.rows.length Cbkbr) (.slice Abh b.halves.length Cbh) (.slice Abtc b.table.conns.length Cbtc) (.slice Abtw b.table.waiting.length Cbtw)⟩],[],[a9 (.slice Aaknr a.keys.now.rows.length Caknr) 2 (a.keys.now.rows.map a5),a9 (.slice Aakbr a.keys.before.rows.length Cakbr) 2 (a.keys.before.rows.map a5),a9 (.slice Aah a.halves.length Cah) 13 (a.halves.map a8),a9 (.slice Aatc a.table.conns.length Catc) 25 (a.table.conns.map ar),ac a.table.conns,a9 (.slice Aatw a.table.waiting.length Catw) 3 (a.table.waiting.map a7),a9 (.slice Abknr b.keys.now.rows.length Cbknr) 2 (b.keys.now.rows.map a5),a9 (.slice Abkbr b.keys.before.rows.length Cbkbr) 2 (b.keys.before.rows.map a5),a9 (.slice Abh b.halves.length Cbh) 13 (b.halves.map a8),a9 (.slice Abtc b.table.conns.length Cbtc) 25 (b.table.conns.map ar),ac b.table.conns,a9 (.slice Abtw b.table.waiting.length Cbtw) 3 (b.table.waiting.map a7)]⟩ ?_ ?_
 refine kG <| co 6 [2,3,10] [(2,.p 0 0),(3,.p 1 0),(10,aB (a.port == b.port))] <| kP 10 (a.port == b.port) (fun h1 => ?_) (fun h1 => ?_)
 have h1p := eqT h1
 refine co 7 [2,3,17] [(2,.p 0 0),(3,.p 1 0),(17,aB (a.clock == b.clock))] <| kP 17 (a.clock == b.clock) (fun h2 => ?_) (fun h2 => ?_)
 have h2p := eqT h2
 refine kCS 4 [2,3,17,19,21] [(2,.p 0 0),(3,.p 1 0),(17,aB true),(19,.v (.agg (aC a.keys (.slice Aaknr a.keys.now.rows.length Caknr) (.slice Aakbr a.keys.before.rows.length Cakbr)).toArray)),(21,.v (.agg (aC b.keys (.slice Abknr b.keys.now.rows.length Cbknr) (.slice Abkbr b.keys.before.rows.length Cbkbr)).toArray))] 21 [.agg (aC a.keys (.slice Aaknr a.keys.now.rows.length Caknr) (.slice Aakbr a.keys.before.rows.length Cakbr)).toArray,.agg (aC b.keys (.slice Abknr b.keys.now.rows.length Cbknr) (.slice Abkbr b.keys.before.rows.length Cbkbr)).toArray] (some 22) rfl (bL fun ww hf => ysSameKeys_c a.keys (.slice Aaknr a.keys.now.rows.length Caknr) (.slice Aakbr a.keys.before.rows.length Cakbr) b.keys (.slice Abknr b.keys.now.rows.length Cbknr) (.slice Abkbr b.keys.before.rows.length Cbkbr) ww (hf _ m0) (hf _ m1) (hf _ m6) (hf _ m7) ) ?_
 intro _
 refine co 2 [2,3,24] [(2,.p 0 0),(3,.p 1 0),(24,aB (aG a.keys b.keys))] <| kP 24 (aG a.keys b.keys) (fun h3 => ?_) (fun h3 => ?_)
 refine kOS 4 [2,3,24,26,28] [(2,.p 0 0),(3,.p 1 0),(24,aB true),(26,.v (.agg (bJ a.lim).toArray)),(28,.v (.agg (bJ b.lim).toArray))] (.bool (cg a.lim b.lim)) rfl (fun _ _ _ ww hr => bU hr.1 rfl (by kernel_rfl) (by kernel_rfl) (bX (by kernel_rfl) (run_eql_LIM a.lim.halves a.lim.waiting a.lim.conns a.lim.chal b.lim.halves b.lim.waiting b.lim.conns b.lim.chal ww))) ?_
 refine co 2 [2,3,31] [(2,.p 0 0),(3,.p 1 0),(31,aB (cg a.lim b.lim))] <| kP 31 (cg a.lim b.lim) (fun h4 => ?_) (fun h4 => ?_)
 refine kCS 4 [2,3,31,33,35] [(2,.p 0 0),(3,.p 1 0),(31,aB true),(33,.v (.slice Aah a.halves.length Cah)),(35,.v (.slice Abh b.halves.length Cbh))] 22 [.slice Aah a.halves.length Cah,.slice Abh b.halves.length Cbh] (some 36) rfl (bL fun ww hf => sSameHalves_c (.slice Aah a.halves.length Cah) (.slice Abh b.halves.length Cbh) a.halves b.halves ww (hf _ m2) (hf (a9 (.slice Abh b.halves.length Cbh) 13 (b.halves.map a8)) (by simp))) ?_
 intro _
 refine co 2 [2,3,38] [(2,.p 0 0),(3,.p 1 0),(38,aB (al bl a.halves b.halves))] <| kP 38 (al bl a.halves b.halves) (fun h5 => ?_) (fun h5 => ?_)
 refine kCS 4 [2,3,38,40,42] [(2,.p 0 0),(3,.p 1 0),(38,aB true),(40,.v (.agg (bh a.table (.slice Aatc a.table.conns.length Catc) (.slice Aatw a.table.waiting.length Catw)).toArray)),(42,.v (.agg (bh b.table (.slice Abtc b.table.conns.length Cbtc) (.slice Abtw b.table.waiting.length Cbtw)).toArray))] 23 [.agg (bh a.table (.slice Aatc a.table.conns.length Catc) (.slice Aatw a.table.waiting.length Catw)).toArray,.agg (bh b.table (.slice Abtc b.table.conns.length Cbtc) (.slice Abtw b.table.waiting.length Cbtw)).toArray] (some 43) rfl (bL fun ww hf => ysSameTable_c a.table (.slice Aatc a.table.conns.length Catc) (.slice Aatw a.table.waiting.length Catw) b.table (.slice Abtc b.table.conns.length Cbtc) (.slice Abtw b.table.waiting.length Cbtw) ww (hf _ m3) (hf _ m4) (hf _ m5) (hf (a9 (.slice Abtc b.table.conns.length Cbtc) 25 (b.table.conns.map ar)) (by simp)) (hf (ac b.table.conns) (by simp)) (hf (a9 (.slice Abtw b.table.waiting.length Cbtw) 3 (b.table.waiting.map a7)) (by simp)) ) ?_
 intro _
 refine co 2 [2,3,45] [(2,.p 0 0),(3,.p 1 0),(45,aB (az a.table b.table))] <| kP 45 (az a.table b.table) (fun h6 => ?_) (fun h6 => ?_)
 refine aS [4] [(4,aB (a.chal == b.chal))] ?_
 show Wk _ _
 try rw [h1]
 try rw [h2]
 try rw [h3]
 try rw [h4]
 try rw [h5]
 try rw [h6]
 exact kF 2 0 [4]
 refine aS [4] [(4,aB false)] ?_
 show Wk _ _
 try rw [h1]
 try rw [h2]
 try rw [h3]
 try rw [h4]
 try rw [h5]
 try rw [h6]
 exact kF 2 0 [4]
 refine aS [4] [(4,aB false)] ?_
 show Wk _ _
 try rw [h1]
 try rw [h2]
 try rw [h3]
 try rw [h4]
 try rw [h5]
 exact kF 2 0 [4]
 refine aS [4] [(4,aB false)] ?_
 show Wk _ _
 try rw [h1]
 try rw [h2]
 try rw [h3]
 try rw [h4]
 exact kF 2 0 [4]
 refine aS [4] [(4,aB false)] ?_
 show Wk _ _
 try rw [h1]
 try rw [h2]
 try rw [h3]
 exact kF 2 0 [4]
 have h2p := eqF h2
 refine aS [4] [(4,aB false)] ?_
 show Wk _ _
 try rw [h1]
 try rw [h2]
 exact kF 2 0 [4]
 have h1p := eqF h1
 refine aS [4] [(4,aB false)] ?_
 show Wk _ _
 try rw [h1]
 exact kF 2 0 [4]
 refine kR ?_
 exact ⟨[.bool ((a.port == b.port) && ((a.clock == b.clock) && ((aG a.keys b.keys) && ((cg a.lim b.lim) && ((al bl a.halves b.halves) && ((az a.table b.table) && (a.chal == b.chal)))))))],by kernel_rfl,fun w' hb hf => ⟨am (show ((a.port == b.port) && ((a.clock == b.clock) && ((aG a.keys b.keys) && ((cg a.lim b.lim) && ((al bl a.halves b.halves) && ((az a.table b.table) && (a.chal == b.chal)))))) : Bool) = b0 a b from by first | rfl | (simp [b0, *]; done)),hb⟩⟩
theorem yiSameDoor_c (a : Dor) (a_keys_now_rowsV : Value) (a_keys_before_rowsV : Value) (a_halvesV : Value) (a_table_connsV : Value) (a_table_waitingV : Value) (b : Dor) (b_keys_now_rowsV : Value) (b_keys_before_rowsV : Value) (b_halvesV : Value) (b_table_connsV : Value) (b_table_waitingV : Value) (w : World) (hl_a_keys_now_rowsV : Sl w a_keys_now_rowsV 2 (a.keys.now.rows.map a5)) (hl_a_keys_before_rowsV : Sl w a_keys_before_rowsV 2 (a.keys.before.rows.map a5)) (hl_a_halvesV : Sl w a_halvesV 13 (a.halves.map a8)) (hl_a_table_connsV : Sl w a_table_connsV 25 (a.table.conns.map ar)) (hh_a_table_connsV : ∀ x ∈ a.table.conns, Sl w x.2 2 (x.1.r.held.map pC)) (hl_a_table_waitingV : Sl w a_table_waitingV 3 (a.table.waiting.map a7)) (hl_b_keys_now_rowsV : Sl w b_keys_now_rowsV 2 (b.keys.now.rows.map a5)) (hl_b_keys_before_rowsV : Sl w b_keys_before_rowsV 2 (b.keys.before.rows.map a5)) (hl_b_halvesV : Sl w b_halvesV 13 (b.halves.map a8)) (hl_b_table_connsV : Sl w b_table_connsV 25 (b.table.conns.map ar)) (hh_b_table_connsV : ∀ x ∈ b.table.conns, Sl w x.2 2 (x.1.r.held.map pC)) (hl_b_table_waitingV : Sl w b_table_waitingV 3 (b.table.waiting.map a7))  : Calls Try.prog 9 #[.agg (aZ a a_keys_now_rowsV a_keys_before_rowsV a_halvesV a_table_connsV a_table_waitingV).toArray, .agg (aZ b b_keys_now_rowsV b_keys_before_rowsV b_halvesV b_table_connsV b_table_waitingV).toArray] w fun e w' => e = .returned (.bool (b0 a b)) ∧ Below w.heap.size w w' := by
 obtain ⟨Aaknr,Caknr,hvaknr⟩ := hl_a_keys_now_rowsV.form
 rw [List.length_map] at hvaknr; subst hvaknr
 have hnaknr := hl_a_keys_now_rowsV.len; rw [List.length_map] at hnaknr
 have hqaknr := Sl.capLe hl_a_keys_now_rowsV
 obtain ⟨Aakbr,Cakbr,hvakbr⟩ := hl_a_keys_before_rowsV.form
 rw [List.length_map] at hvakbr; subst hvakbr
 have hnakbr := hl_a_keys_before_rowsV.len; rw [List.length_map] at hnakbr
 have hqakbr := Sl.capLe hl_a_keys_before_rowsV
 obtain ⟨Aah,Cah,hvah⟩ := hl_a_halvesV.form
 rw [List.length_map] at hvah; subst hvah
 have hnah := hl_a_halvesV.len; rw [List.length_map] at hnah
 have hqah := Sl.capLe hl_a_halvesV
 obtain ⟨Aatc,Catc,hvatc⟩ := hl_a_table_connsV.form
 rw [List.length_map] at hvatc; subst hvatc
 have hnatc := hl_a_table_connsV.len; rw [List.length_map] at hnatc
 have hqatc := Sl.capLe hl_a_table_connsV
 obtain ⟨Aatw,Catw,hvatw⟩ := hl_a_table_waitingV.form
 rw [List.length_map] at hvatw; subst hvatw
 have hnatw := hl_a_table_waitingV.len; rw [List.length_map] at hnatw
 have hqatw := Sl.capLe hl_a_table_waitingV
 obtain ⟨Abknr,Cbknr,hvbknr⟩ := hl_b_keys_now_rowsV.form
 rw [List.length_map] at hvbknr; subst hvbknr
 have hnbknr := hl_b_keys_now_rowsV.len; rw [List.length_map] at hnbknr
 have hqbknr := Sl.capLe hl_b_keys_now_rowsV
 obtain ⟨Abkbr,Cbkbr,hvbkbr⟩ := hl_b_keys_before_rowsV.form
 rw [List.length_map] at hvbkbr; subst hvbkbr
 have hnbkbr := hl_b_keys_before_rowsV.len; rw [List.length_map] at hnbkbr
 have hqbkbr := Sl.capLe hl_b_keys_before_rowsV
 obtain ⟨Abh,Cbh,hvbh⟩ := hl_b_halvesV.form
 rw [List.length_map] at hvbh; subst hvbh
 have hnbh := hl_b_halvesV.len; rw [List.length_map] at hnbh
 have hqbh := Sl.capLe hl_b_halvesV
 obtain ⟨Abtc,Cbtc,hvbtc⟩ := hl_b_table_connsV.form
 rw [List.length_map] at hvbtc; subst hvbtc
 have hnbtc := hl_b_table_connsV.len; rw [List.length_map] at hnbtc
 have hqbtc := Sl.capLe hl_b_table_connsV
 obtain ⟨Abtw,Cbtw,hvbtw⟩ := hl_b_table_waitingV.form
 rw [List.length_map] at hvbtw; subst hvbtw
 have hnbtw := hl_b_table_waitingV.len; rw [List.length_map] at hnbtw
 have hqbtw := Sl.capLe hl_b_table_waitingV
 refine ad (args := [.agg (aZ a (.slice Aaknr a.keys.now.rows.length Caknr) (.slice Aakbr a.keys.before.rows.length Cakbr) (.slice Aah a.halves.length Cah) (.slice Aatc a.table.conns.length Catc) (.slice Aatw a.table.waiting.length Catw)).toArray,.agg (aZ b (.slice Abknr b.keys.now.rows.length Cbknr) (.slice Abkbr b.keys.before.rows.length Cbkbr) (.slice Abh b.halves.length Cbh) (.slice Abtc b.table.conns.length Cbtc) (.slice Abtw b.table.waiting.length Cbtw)).toArray]) (fn := Try.f9) [a9 (.slice Aaknr a.keys.now.rows.length Caknr) 2 (a.keys.now.rows.map a5),a9 (.slice Aakbr a.keys.before.rows.length Cakbr) 2 (a.keys.before.rows.map a5),a9 (.slice Aah a.halves.length Cah) 13 (a.halves.map a8),a9 (.slice Aatc a.table.conns.length Catc) 25 (a.table.conns.map ar),ac a.table.conns,a9 (.slice Aatw a.table.waiting.length Catw) 3 (a.table.waiting.map a7),a9 (.slice Abknr b.keys.now.rows.length Cbknr) 2 (b.keys.now.rows.map a5),a9 (.slice Abkbr b.keys.before.rows.length Cbkbr) 2 (b.keys.before.rows.map a5),a9 (.slice Abh b.halves.length Cbh) 13 (b.halves.map a8),a9 (.slice Abtc b.table.conns.length Cbtc) 25 (b.table.conns.map ar),ac b.table.conns,a9 (.slice Abtw b.table.waiting.length Cbtw) 3 (b.table.waiting.map a7)] Try.func9 rfl Try.ntmps9 rfl (by simp only [List.mem_cons,List.not_mem_nil,or_false,forall_eq_or_imp,forall_eq]; exact ⟨⟨rfl,hl_a_keys_now_rowsV⟩,⟨rfl,hl_a_keys_before_rowsV⟩,⟨rfl,hl_a_halvesV⟩,⟨rfl,hl_a_table_connsV⟩,⟨rfl,hh_a_table_connsV⟩,⟨rfl,hl_a_table_waitingV⟩,⟨rfl,hl_b_keys_now_rowsV⟩,⟨rfl,hl_b_keys_before_rowsV⟩,⟨rfl,hl_b_halvesV⟩,⟨rfl,hl_b_table_connsV⟩,⟨rfl,hh_b_table_connsV⟩,⟨rfl,hl_b_table_waitingV⟩⟩) ?_
 refine kQ <| ct [2,3] ⟨[(2,.p 0 0),(3,.p 1 0)],[⟨51,aZ a (.slice Aaknr a.keys.now.rows.length Caknr) (.slice Aakbr a.keys.before.rows.length Cakbr) (.slice Aah a.halves.length Cah) (.slice Aatc a.table.conns.length Catc) (.slice Aatw a.table.waiting.length Catw)⟩,⟨51,aZ b (.slice Abknr b.keys.now.rows.length Cbknr) (.slice Abkbr b.keys.before.rows.length Cbkbr) (.slice Abh b.halves.length Cbh) (.slice Abtc b.table.conns.length Cbtc) (.slice Abtw b.table.waiting.length Cbtw)⟩],[],[a9 (.slice Aaknr a.keys.now.rows.length Caknr) 2 (a.keys.now.rows.map a5),a9 (.slice Aakbr a.keys.before.rows.length Cakbr) 2 (a.keys.before.rows.map a5),a9 (.slice Aah a.halves.length Cah) 13 (a.halves.map a8),a9 (.slice Aatc a.table.conns.length Catc) 25 (a.table.conns.map ar),ac a.table.conns,a9 (.slice Aatw a.table.waiting.length Catw) 3 (a.table.waiting.map a7),a9 (.slice Abknr b.keys.now.rows.length Cbknr) 2 (b.keys.now.rows.map a5),a9 (.slice Abkbr b.keys.before.rows.length Cbkbr) 2 (b.keys.before.rows.map a5),a9 (.slice Abh b.halves.length Cbh) 13 (b.halves.map a8),a9 (.slice Abtc b.table.conns.length Cbtc) 25 (b.table.conns.map ar),ac b.table.conns,a9 (.slice Abtw b.table.waiting.length Cbtw) 3 (b.table.waiting.map a7)]⟩ <| kS <| cn ⟨[(4,aB ((a.port == b.port) && ((a.clock == b.clock) && ((aG a.keys b.keys) && ((cg a.lim b.lim) && ((al bl a.halves b.halves) && ((az a.table b.table) && (a.chal == b.chal))))))))],[⟨51,aZ a (.slice Aaknr a.keys.now.rows.length Caknr) (.slice Aakbr a.keys.before.rows.length Cakbr) (.slice Aah a.halves.length Cah) (.slice Aatc a.table.conns.length Catc) (.slice Aatw a.table.waiting.length Catw)⟩,⟨51,aZ b (.slice Abknr b.keys.now.rows.length Cbknr) (.slice Abkbr b.keys.before.rows.length Cbkbr) (.slice Abh b.halves.length Cbh) (.slice Abtc b.table.conns.length Cbtc) (.slice Abtw b.table.waiting.length Cbtw)⟩],[],[a9 (.slice Aaknr a.keys.now.rows.length Caknr) 2 (a.keys.now.rows.map a5),a9 (.slice Aakbr a.keys.before.rows.length Cakbr) 2 (a.keys.before.rows.map a5),a9 (.slice Aah a.halves.length Cah) 13 (a.halves.map a8),a9 (.slice Aatc a.table.conns.length Catc) 25 (a.table.conns.map ar),ac a.table.conns,a9 (.slice Aatw a.table.waiting.length Catw) 3 (a.table.waiting.map a7),a9 (.slice Abknr b.keys.now.rows.length Cbknr) 2 (b.keys.now.rows.map a5),a9 (.slice Abkbr b.keys.before.rows.length Cbkbr) 2 (b.keys.before.rows.map a5),a9 (.slice Abh b.halves.length Cbh) 13 (b.halves.map a8),a9 (.slice Abtc b.table.conns.length Cbtc) 25 (b.table.conns.map ar),ac b.table.conns,a9 (.slice Abtw b.table.waiting.length Cbtw) 3 (b.table.waiting.map a7)]⟩ ?_ ?_
 refine kG <| co 6 [2,3,10] [(2,.p 0 0),(3,.p 1 0),(10,aB (a.port == b.port))] <| kP 10 (a.port == b.port) (fun h1 => ?_) (fun h1 => ?_)
 have h1p := eqT h1
 refine co 7 [2,3,17] [(2,.p 0 0),(3,.p 1 0),(17,aB (a.clock == b.clock))] <| kP 17 (a.clock == b.clock) (fun h2 => ?_) (fun h2 => ?_)
 have h2p := eqT h2
 refine kCS 4 [2,3,17,19,21] [(2,.p 0 0),(3,.p 1 0),(17,aB true),(19,.v (.agg (aC a.keys (.slice Aaknr a.keys.now.rows.length Caknr) (.slice Aakbr a.keys.before.rows.length Cakbr)).toArray)),(21,.v (.agg (aC b.keys (.slice Abknr b.keys.now.rows.length Cbknr) (.slice Abkbr b.keys.before.rows.length Cbkbr)).toArray))] 28 [.agg (aC a.keys (.slice Aaknr a.keys.now.rows.length Caknr) (.slice Aakbr a.keys.before.rows.length Cakbr)).toArray,.agg (aC b.keys (.slice Abknr b.keys.now.rows.length Cbknr) (.slice Abkbr b.keys.before.rows.length Cbkbr)).toArray] (some 22) rfl (bL fun ww hf => yiSameKeys_c a.keys (.slice Aaknr a.keys.now.rows.length Caknr) (.slice Aakbr a.keys.before.rows.length Cakbr) b.keys (.slice Abknr b.keys.now.rows.length Cbknr) (.slice Abkbr b.keys.before.rows.length Cbkbr) ww (hf _ m0) (hf _ m1) (hf _ m6) (hf _ m7) ) ?_
 intro _
 refine co 2 [2,3,24] [(2,.p 0 0),(3,.p 1 0),(24,aB (aG a.keys b.keys))] <| kP 24 (aG a.keys b.keys) (fun h3 => ?_) (fun h3 => ?_)
 refine kOS 4 [2,3,24,26,28] [(2,.p 0 0),(3,.p 1 0),(24,aB true),(26,.v (.agg (bJ a.lim).toArray)),(28,.v (.agg (bJ b.lim).toArray))] (.bool (cg a.lim b.lim)) rfl (fun _ _ _ ww hr => bU hr.1 rfl (by kernel_rfl) (by kernel_rfl) (bX (by kernel_rfl) (run_eql_LIM a.lim.halves a.lim.waiting a.lim.conns a.lim.chal b.lim.halves b.lim.waiting b.lim.conns b.lim.chal ww))) ?_
 refine co 2 [2,3,31] [(2,.p 0 0),(3,.p 1 0),(31,aB (cg a.lim b.lim))] <| kP 31 (cg a.lim b.lim) (fun h4 => ?_) (fun h4 => ?_)
 refine kCS 4 [2,3,31,33,35] [(2,.p 0 0),(3,.p 1 0),(31,aB true),(33,.v (.slice Aah a.halves.length Cah)),(35,.v (.slice Abh b.halves.length Cbh))] 29 [.slice Aah a.halves.length Cah,.slice Abh b.halves.length Cbh] (some 36) rfl (bL fun ww hf => iSameHalves_c (.slice Aah a.halves.length Cah) (.slice Abh b.halves.length Cbh) a.halves b.halves ww (hf _ m2) (hf (a9 (.slice Abh b.halves.length Cbh) 13 (b.halves.map a8)) (by simp))) ?_
 intro _
 refine co 2 [2,3,38] [(2,.p 0 0),(3,.p 1 0),(38,aB (al bl a.halves b.halves))] <| kP 38 (al bl a.halves b.halves) (fun h5 => ?_) (fun h5 => ?_)
 refine kCS 4 [2,3,38,40,42] [(2,.p 0 0),(3,.p 1 0),(38,aB true),(40,.v (.agg (bh a.table (.slice Aatc a.table.conns.length Catc) (.slice Aatw a.table.waiting.length Catw)).toArray)),(42,.v (.agg (bh b.table (.slice Abtc b.table.conns.length Cbtc) (.slice Abtw b.table.waiting.length Cbtw)).toArray))] 30 [.agg (bh a.table (.slice Aatc a.table.conns.length Catc) (.slice Aatw a.table.waiting.length Catw)).toArray,.agg (bh b.table (.slice Abtc b.table.conns.length Cbtc) (.slice Abtw b.table.waiting.length Cbtw)).toArray] (some 43) rfl (bL fun ww hf => yiSameTable_c a.table (.slice Aatc a.table.conns.length Catc) (.slice Aatw a.table.waiting.length Catw) b.table (.slice Abtc b.table.conns.length Cbtc) (.slice Abtw b.table.waiting.length Cbtw) ww (hf _ m3) (hf _ m4) (hf _ m5) (hf (a9 (.slice Abtc b.table.conns.length Cbtc) 25 (b.table.conns.map ar)) (by simp)) (hf (ac b.table.conns) (by simp)) (hf (a9 (.slice Abtw b.table.waiting.length Cbtw) 3 (b.table.waiting.map a7)) (by simp)) ) ?_
 intro _
 refine co 2 [2,3,45] [(2,.p 0 0),(3,.p 1 0),(45,aB (az a.table b.table))] <| kP 45 (az a.table b.table) (fun h6 => ?_) (fun h6 => ?_)
 refine aS [4] [(4,aB (a.chal == b.chal))] ?_
 show Wk _ _
 try rw [h1]
 try rw [h2]
 try rw [h3]
 try rw [h4]
 try rw [h5]
 try rw [h6]
 exact kF 2 0 [4]
 refine aS [4] [(4,aB false)] ?_
 show Wk _ _
 try rw [h1]
 try rw [h2]
 try rw [h3]
 try rw [h4]
 try rw [h5]
 try rw [h6]
 exact kF 2 0 [4]
 refine aS [4] [(4,aB false)] ?_
 show Wk _ _
 try rw [h1]
 try rw [h2]
 try rw [h3]
 try rw [h4]
 try rw [h5]
 exact kF 2 0 [4]
 refine aS [4] [(4,aB false)] ?_
 show Wk _ _
 try rw [h1]
 try rw [h2]
 try rw [h3]
 try rw [h4]
 exact kF 2 0 [4]
 refine aS [4] [(4,aB false)] ?_
 show Wk _ _
 try rw [h1]
 try rw [h2]
 try rw [h3]
 exact kF 2 0 [4]
 have h2p := eqF h2
 refine aS [4] [(4,aB false)] ?_
 show Wk _ _
 try rw [h1]
 try rw [h2]
 exact kF 2 0 [4]
 have h1p := eqF h1
 refine aS [4] [(4,aB false)] ?_
 show Wk _ _
 try rw [h1]
 exact kF 2 0 [4]
 refine kR ?_
 exact ⟨[.bool ((a.port == b.port) && ((a.clock == b.clock) && ((aG a.keys b.keys) && ((cg a.lim b.lim) && ((al bl a.halves b.halves) && ((az a.table b.table) && (a.chal == b.chal)))))))],by kernel_rfl,fun w' hb hf => ⟨am (show ((a.port == b.port) && ((a.clock == b.clock) && ((aG a.keys b.keys) && ((cg a.lim b.lim) && ((al bl a.halves b.halves) && ((az a.table b.table) && (a.chal == b.chal)))))) : Bool) = b0 a b from by first | rfl | (simp [b0, *]; done)),hb⟩⟩
theorem yszConnS_c (a : List CV) (aV : Value) (left : Int) (w : World) (hl_aV : Sl w aV 25 (a.map ar)) (hh_aV : ∀ x ∈ a, Sl w x.2 2 (x.1.r.held.map pC)) (h0 : 0 ≤ left) (h1 : left ≤ 1048576) (hm : ∀ x ∈ a, conMax x.1) : Calls Try.prog 57 #[aV, iI left] w fun e w' => ∃ r : Int, e = .returned (iI r) ∧ szP left r a ∧ Below w.heap.size w w' := by
 obtain ⟨Aa,Ca,hva⟩ := hl_aV.form
 rw [List.length_map] at hva; subst hva
 have hna := hl_aV.len; rw [List.length_map] at hna
 have hqa := Sl.capLe hl_aV
 refine ad (args := [.slice Aa a.length Ca,iI left]) (fn := Try.f57) [a9 (.slice Aa a.length Ca) 25 (a.map ar),ac a] Try.func57 rfl Try.ntmps57 rfl (by simp only [List.mem_cons,List.not_mem_nil,or_false,forall_eq_or_imp,forall_eq]; exact ⟨⟨rfl,hl_aV⟩,⟨rfl,hh_aV⟩⟩) ?_
 refine kQ <| ct [0,1] ⟨[(0,.v (.slice Aa a.length Ca)),(1,aI left)],[],[],[a9 (.slice Aa a.length Ca) 25 (a.map ar),ac a]⟩ <| kQ <| kRD 5 [0,1] [(1,aI (K6.wrap (left - ((a.length : Nat) : Int))))] ?_
 refine xl_nv [0,1] [(1,aI (K6.wrap (left - ((a.length : Nat) : Int))))] [(1,aI (left - ((a.length : Nat) : Int)))] (by rw [show (K6.wrap (left - ((a.length : Nat) : Int))) = (left - ((a.length : Nat) : Int)) from bf (by omega) (by omega)]) (by kernel_rfl) ?_
 refine bk [0,1] [] <| kS <| kQ <| bk [0,1,11] [(11,aB (decide ((left - ((a.length : Nat) : Int)) < 0)))] ?_
 refine kC (decide ((left - ((a.length : Nat) : Int)) < 0)) (fun h1 => ?_) (fun h1 => ?_)
 have h1p := of_decide_eq_true h1
 refine kQ <| aS [4] [(4,aI (-1))] <| kR ?_
 exact ⟨[iI (-1)],by kernel_rfl,fun w' hb hf => ⟨_,rfl,.inl rfl,hb⟩⟩
 have h1p := of_decide_eq_false h1
 refine kK <| kS <| kQ <| bk [0,1,5] [(5,aI 0)] ?_
 refine aa <| bd (α := {x : Nat × Int // (fun (i : Nat) (z : Int) => i ≤ a.length ∧ 0 ≤ z ∧ z ≤ left - (a.length : Int) ∧ ∀ (j : Nat) (x : CV),j < i → a[j]? = some x → ConFit left x.1) x.1 x.2}) (fun x => (fun (i : Nat) (z : Int) => (⟨[(0,.v (.slice Aa a.length Ca)),(1,aI z),(5,aI (i : Int))],[],[],[a9 (.slice Aa a.length Ca) 25 (a.map ar),ac a]⟩ : St)) x.1.1 x.1.2) (fun x => (fun (i : Nat) (z : Int) => a.length - i) x.1.1 x.1.2) ⟨(0,left - ((a.length : Nat) : Int)),⟨Nat.zero_le _,(by first | omega | (simp at *; omega)),(by omega),(fun j x hj => by omega)⟩⟩ (kF 0 0 [0,1,5]) ?_
 rintro ⟨⟨i,z⟩,hi,hz0,hz1,HK⟩
 try dsimp only
 try dsimp only at hi hz0 hz1 HK
 refine kS <| kQ <| bk [0,1,5,15] [(15,aB (decide ((i : Int) < ((a.length : Nat) : Int))))] <| kC (decide ((i : Int) < ((a.length : Nat) : Int))) (fun h2 => ?_) (fun h2 => ?_)
 have h2p := of_decide_eq_true h2
 have hlt : i < a.length := by simpa using h2
 obtain ⟨x0,hx⟩ : ∃ x,a[i]? = some x := ⟨_,List.getElem?_eq_getElem hlt⟩
 obtain ⟨x,xa,xc,rfl⟩ := cN (hh_aV x0 (List.mem_of_getElem? hx))
 have hmx : conMax x := hm _ (List.mem_of_getElem? hx)
 refine kK <| kS <| aa <| kQ <| cU (kd := .i64) (T := 31) (e := 139) (K := 25) 2 [0,1,5,18,19] [(18,.v (.slice Aa a.length Ca)),(19,aI (i : Int))] i [iI x.t.ip,iI x.t.port,iI x.t.my,iI x.state,iI x.s.una,.string x.s.data,iI x.s.sent,.bool x.s.fin,.bool x.s.finSent,.bool x.s.done,iI x.r.next,.string x.r.data,.slice xa x.r.held.length xc,iI x.r.fin,.bool x.r.done,iI x.window,iI x.most,iI x.o.mss,iI x.o.scale,.bool x.o.sack,.bool x.o.stamp,iI x.o.val,iI x.o.echo,iI x.timer,iI x.tries] (a9 (.slice Aa a.length Ca) 25 (a.map ar)) (by kernel_rfl) rfl (by kernel_rfl) rfl rfl (by kernel_rfl) (by kernel_rfl) (by kernel_rfl) (by kernel_rfl) hlt (by simp) (fun w h => h) (fun b h => h) (by simp only [List.getElem?_map,hx]; rfl) ?_
 refine kCD 2 [0,1,5,21,22] [(21,.v (.agg (bc x (cS xa x xc)).toArray)),(22,aI z)] 98 [.agg (bc x (cS xa x xc)).toArray,iI z] (some 23) rfl (xc_e (α := Int) (F := fun y => iI y) (p := fun r => r = -1 ∨ (0 ≤ r ∧ r ≤ z ∧ ConFit z x)) fun ww hf => szConn_c x.t.ip x.t.port x.t.my x.state x.s.una x.s.data x.s.sent x.s.fin x.s.finSent x.s.done x.r.next x.r.data x.r.held (cS xa x xc) x.r.fin x.r.done x.window x.most x.o.mss x.o.scale x.o.sack x.o.stamp x.o.val x.o.echo x.timer x.tries z ww ((hf _ m1) (x,.slice xa x.r.held.length xc) (List.mem_of_getElem? hx)) hmx.2.2 (by omega) (by omega) hmx.2.1 hmx.1) ?_
 rintro ⟨r3,hr3⟩
 refine bk [0,1,5] [(1,aI r3)] <| kQ <| bk [0,1,5,25] [(25,aB (decide (r3 < 0)))] <| kC (decide (r3 < 0)) (fun h4 => ?_) (fun h4 => ?_)
 have h4p := of_decide_eq_true h4
 refine kQ <| aS [4] [(4,aI (-1))] <| kR ?_
 exact ⟨[iI (-1)],by kernel_rfl,fun w' hb hf => ⟨_,rfl,.inl rfl,hb⟩⟩
 have h4p := of_decide_eq_false h4
 rcases hr3 with hr3 | ⟨hr3a,hr3b,hr3c⟩
 · omega
 refine kK <| kG <| co 3 [0,1,5] [(0,.v (.slice Aa a.length Ca)),(1,aI r3),(5,aI (K6.wrap ((i : Int) + 1)))] <| xl_eqS (t' := [(0,.v (.slice Aa a.length Ca)),(1,aI r3),(5,aI ((i : Int) + 1))]) (by rw [show (K6.wrap ((i : Int) + 1)) = ((i : Int) + 1) from bf (by omega) (by omega)]) ?_
 refine bk [0,1,5] [] ?_
 exact ⟨⟨(i + 1,r3),⟨hlt,by omega,by omega,sz_step hx (hr3c.mono (by omega)) HK⟩⟩,kF 0 0 [0,1,5],by show (fun (i : Nat) (z : Int) => a.length - i) (i + 1) r3 < a.length - i; (dsimp only; omega)⟩
 have h2p := of_decide_eq_false h2
 have hge : i = a.length := by simp at h2; omega
 refine bD <| kQ <| aS [4] [(4,aI z)] <| kR ?_
 exact ⟨[iI z],by kernel_rfl,fun w' hb hf => ⟨_,rfl,.inr ⟨by omega,by omega,by omega,sz_all hge HK⟩,hb⟩⟩
theorem yszTable_c (c : List CV) (wt : List Tup) (tc : Value) (tw : Value) (left : Int) (w : World) (hl_tc : Sl w tc 25 (c.map ar)) (hh_tc : ∀ x ∈ c, Sl w x.2 2 (x.1.r.held.map pC)) (hl_tw : Sl w tw 3 (wt.map a7)) (h0 : 0 ≤ left) (h1 : left ≤ 1048576) (hm : ∀ x ∈ c, conMax x.1) : Calls Try.prog 20 #[.agg #[tc, tw], iI left] w fun e w' => ∃ r : Int, e = .returned (iI r) ∧ (r = -1 ∨ (0 ≤ r ∧ r ≤ left ∧ (c.length : Int) ≤ left ∧ (∀ x ∈ c, ConFit left x.1) ∧ (wt.length : Int) ≤ left)) ∧ Below w.heap.size w w' := by
 obtain ⟨ra_tc,rc_tc,hv_tc⟩ := hl_tc.form
 rw [List.length_map] at hv_tc; subst hv_tc
 have hn_tc := hl_tc.len; rw [List.length_map] at hn_tc
 have hq_tc := Sl.capLe hl_tc
 obtain ⟨ra_tw,rc_tw,hv_tw⟩ := hl_tw.form
 rw [List.length_map] at hv_tw; subst hv_tw
 have hn_tw := hl_tw.len; rw [List.length_map] at hn_tw
 have hq_tw := Sl.capLe hl_tw
 refine ad (args := [.agg #[.slice ra_tc c.length rc_tc,.slice ra_tw wt.length rc_tw],iI left]) (fn := Try.f20) [a9 (.slice ra_tc c.length rc_tc) 25 (c.map ar),ac c,a9 (.slice ra_tw wt.length rc_tw) 3 (wt.map a7)] Try.func20 rfl Try.ntmps20 rfl (by simp only [List.mem_cons,List.not_mem_nil,or_false,forall_eq_or_imp,forall_eq]; exact ⟨⟨rfl,hl_tc⟩,⟨rfl,hh_tc⟩,⟨rfl,hl_tw⟩⟩) ?_
 refine kQ <| ct [1,2] ⟨[(1,aI left),(2,.p 0 0)],[⟨34,[.slice ra_tc c.length rc_tc,.slice ra_tw wt.length rc_tw]⟩],[],[a9 (.slice ra_tc c.length rc_tc) 25 (c.map ar),ac c,a9 (.slice ra_tw wt.length rc_tw) 3 (wt.map a7)]⟩ <| kQ <| kCD 3 [1,2,6,7] [(6,.v (.slice ra_tc c.length rc_tc)),(7,aI left)] 57 [.slice ra_tc c.length rc_tc,iI left] (some 8) rfl (xc_e (α := Int) (F := fun y => iI y) (p := fun r => szP left r c) fun ww hf => yszConnS_c c (.slice ra_tc c.length rc_tc) left ww (hf _ m0) (hf _ m1) (by omega) (by omega) hm) ?_
 rintro ⟨r1,hr1⟩
 refine bk [1,2] [(1,aI r1)] <| kS <| kQ <| bk [1,2,10] [(10,aB (decide (r1 < 0)))] ?_
 refine kC (decide (r1 < 0)) (fun h2 => ?_) (fun h2 => ?_)
 have h2p := of_decide_eq_true h2
 refine kQ <| aS [4] [(4,aI (-1))] <| kR ?_
 exact ⟨[iI (-1)],by kernel_rfl,fun w' hb hf => ⟨_,rfl,.inl rfl,hb⟩⟩
 have h2p := of_decide_eq_false h2
 rcases hr1 with hr1 | ⟨hr1a,hr1b,hr1n,hr1c⟩
 · omega
 refine kK <| kQ <| kCD 3 [1,12,13] [(12,.v (.slice ra_tw wt.length rc_tw)),(13,aI r1)] 58 [.slice ra_tw wt.length rc_tw,iI r1] (some 14) rfl (xc_s fun ww hf => szTupleS_c (.slice ra_tw wt.length rc_tw) wt r1 ww (hf _ m2) (by omega) (by omega)) ?_
 intro _
 refine aS [1] [(1,aI (if (r1 : Int) < wt.length then -1 else (r1 : Int) - wt.length))] <| kS <| kQ <| bk [1,16] [(16,aB (decide ((if (r1 : Int) < wt.length then -1 else (r1 : Int) - wt.length) < 0)))] ?_
 refine kC (decide ((if (r1 : Int) < wt.length then -1 else (r1 : Int) - wt.length) < 0)) (fun h3 => ?_) (fun h3 => ?_)
 have h3p := of_decide_eq_true h3
 refine kQ <| aS [4] [(4,aI (-1))] <| kR ?_
 exact ⟨[iI (-1)],by kernel_rfl,fun w' hb hf => ⟨_,rfl,.inl rfl,hb⟩⟩
 have h3p := of_decide_eq_false h3
 have hsz_wt : wt.length ≤ 1048576 := by by_cases hh : (r1 : Int) < (wt.length : Int) <;> simp [hh] at h3; omega
 refine kK <| kQ <| aS [4] [(4,aI (if (r1 : Int) < wt.length then -1 else (r1 : Int) - wt.length))] <| kR ?_
 exact ⟨[iI (if (r1 : Int) < wt.length then -1 else (r1 : Int) - wt.length)],by kernel_rfl,fun w' hb hf => ⟨_,rfl,.inr ⟨by split <;> omega,by split <;> omega,by omega,by assumption,by omega⟩,hb⟩⟩
theorem ytoConnS_c (a : List CV) (aV : Value) (w : World) (hl_aV : Sl w aV 25 (a.map ar)) (hh_aV : ∀ x ∈ a, Sl w x.2 2 (x.1.r.held.map pC)) (hfit : ∀ x ∈ a, bZ x.1) (hln : a.length ≤ 1048576) (B : Nat) (hB : B ≤ w.heap.size) : Calls Try.prog 63 #[aV] w fun e w' => XRs w w' e (α := {cs : List CV // pl cs = pl a} × (Option Addr × Nat)) (fun y => .slice y.2.1 y.1.1.length y.2.2) (fun y => [ck B 108 25 (.slice y.2.1 y.1.1.length y.2.2) (y.1.1.map ar), aD B y.1.1]) := by
 obtain ⟨Aa,Ca,hva⟩ := hl_aV.form
 rw [List.length_map] at hva; subst hva
 have hna := hl_aV.len; rw [List.length_map] at hna
 have hqa := Sl.capLe hl_aV
 refine x_callsA (args := [.slice Aa a.length Ca]) (fn := Try.f63) [a9 (.slice Aa a.length Ca) 25 (a.map ar),ac a] Try.func63 rfl Try.ntmps63 rfl (by simp only [List.mem_cons,List.not_mem_nil,or_false,forall_eq_or_imp,forall_eq]; exact ⟨⟨rfl,hl_aV⟩,⟨rfl,hh_aV⟩⟩) ?_
 refine kQ <| ct [0] ⟨[(0,.v (.slice Aa a.length Ca))],[],[],[a9 (.slice Aa a.length Ca) 25 (a.map ar),ac a]⟩ <| kQ <| kHD 2 [0,6] [(6,aI ((a.length : Nat) : Int))] rfl (hv_make (kl := .i64) (kc := .i64) (e := 108) (K := 25) (bytes := 208) (m := a.length) (z := .agg (conZ).toArray) (rs := (List.replicate a.length ((⟨⟨0,0,0⟩,0,⟨0,(⟨#[]⟩ : ByteArray),0,false,false,false⟩,⟨0,(⟨#[]⟩ : ByteArray),[],0,false⟩,0,0,⟨0,0,false,false,0,0⟩,0,0⟩,.slice none 0 0) : CV)).map ar) rfl (by kernel_rfl) (by kernel_rfl) (by kernel_rfl) (by kernel_rfl) (by (try simp only [List.length_map,List.length_append,List.length_cons,List.length_nil,List.length_take,List.length_drop,maxLen]); omega) (by (try simp only [List.length_map,List.length_append,List.length_cons,List.length_nil,List.length_take,List.length_drop,maxLen]); omega) (by rw [List.map_replicate]; rfl)) ?_
 intro g1
 refine bk [0,3] [(3,.v (.slice (some ⟨g1,0,none⟩) a.length a.length))] <| kS <| kQ <| bk [0,3,4] [(4,aI 0)] ?_
 refine aa <| xw_free (aD w.heap.size (List.replicate a.length ((⟨⟨0,0,0⟩,0,⟨0,(⟨#[]⟩ : ByteArray),0,false,false,false⟩,⟨0,(⟨#[]⟩ : ByteArray),[],0,false⟩,0,0,⟨0,0,false,false,0,0⟩,0,0⟩,.slice none 0 0) : CV))) (fun ww _ => hownF_rep ww _ _) (fun b => hownF_repb) <| bd (α := {x : Nat × List CV // (fun (i : Nat) (l : List CV) => i ≤ a.length ∧ l.length = a.length ∧ (pl l).take i = (pl a).take i) x.1 x.2}) (fun x => (fun (i : Nat) (l : List CV) => (⟨[(0,.v (.slice Aa a.length Ca)),(3,.v (.slice (some ⟨g1,0,none⟩) a.length a.length)),(4,aI (i : Int))],[],[],[aD w.heap.size l,ck w.heap.size 108 25 (.slice (some ⟨g1,0,none⟩) a.length a.length) (l.map ar),a9 (.slice Aa a.length Ca) 25 (a.map ar),ac a]⟩ : St)) x.1.1 x.1.2) (fun x => (fun (i : Nat) (l : List CV) => a.length - i) x.1.1 x.1.2) ⟨(0,(List.replicate a.length ((⟨⟨0,0,0⟩,0,⟨0,(⟨#[]⟩ : ByteArray),0,false,false,false⟩,⟨0,(⟨#[]⟩ : ByteArray),[],0,false⟩,0,0,⟨0,0,false,false,0,0⟩,0,0⟩,.slice none 0 0) : CV))),⟨Nat.zero_le _,List.length_replicate,rfl⟩⟩ (kPk [0,1,2,3] <| kF 0 0 [0,3,4]) ?_
 rintro ⟨⟨i,l⟩,hi,hll,HK⟩
 try dsimp only
 try dsimp only at hi hll HK
 refine kS <| kQ <| bk [0,3,4,11] [(11,aB (decide ((i : Int) < ((a.length : Nat) : Int))))] <| kC (decide ((i : Int) < ((a.length : Nat) : Int))) (fun h2 => ?_) (fun h2 => ?_)
 have h2p := of_decide_eq_true h2
 have hlt : i < a.length := by simpa using h2
 obtain ⟨x0,hx⟩ : ∃ x,a[i]? = some x := ⟨_,List.getElem?_eq_getElem hlt⟩
 obtain ⟨x,xa,xc,rfl⟩ := cN (hh_aV x0 (List.mem_of_getElem? hx))
 have hft_x : bZ x := hfit _ (List.mem_of_getElem? hx)
 obtain ⟨hfs_x,hfr_x,hfh_x,hfp_x⟩ := hft_x
 obtain ⟨z,hz⟩ : ∃ z,l[i]? = some z := ⟨_,List.getElem?_eq_getElem (by omega)⟩
 refine kK <| kS <| aa <| kG <| cU (kd := .i64) (T := 31) (e := 139) (K := 25) 4 [0,3,4,14,15,16,17] [(14,.v (.slice (some ⟨g1,0,none⟩) a.length a.length)),(15,aI (i : Int)),(16,.v (.slice Aa a.length Ca)),(17,aI (i : Int))] i [iI x.t.ip,iI x.t.port,iI x.t.my,iI x.state,iI x.s.una,.string x.s.data,iI x.s.sent,.bool x.s.fin,.bool x.s.finSent,.bool x.s.done,iI x.r.next,.string x.r.data,.slice xa x.r.held.length xc,iI x.r.fin,.bool x.r.done,iI x.window,iI x.most,iI x.o.mss,iI x.o.scale,.bool x.o.sack,.bool x.o.stamp,iI x.o.val,iI x.o.echo,iI x.timer,iI x.tries] (a9 (.slice Aa a.length Ca) 25 (a.map ar)) (by kernel_rfl) rfl (by kernel_rfl) rfl rfl (by kernel_rfl) (by kernel_rfl) (by kernel_rfl) (by kernel_rfl) hlt (by simp) (fun w h => h) (fun b h => h) (by simp only [List.getElem?_map,hx]; rfl) ?_
 refine kCD 1 [0,3,4,14,15,19] [(19,.v (.agg (bc x (cS xa x xc)).toArray))] 101 [.agg (bc x (cS xa x xc)).toArray] (some 20) rfl (xc_on (m := x.r.held.length) (F := fun v' => .agg (bc x v').toArray) (List.length_map ..) fun ww hf => toConn_c x.t.ip x.t.port x.t.my x.state x.s.una x.s.data x.s.sent x.s.fin x.s.finSent x.s.done x.r.next x.r.data x.r.held (cS xa x xc) x.r.fin x.r.done x.window x.most x.o.mss x.o.scale x.o.sack x.o.stamp x.o.val x.o.echo x.timer x.tries ww ((hf _ m3) (x,.slice xa x.r.held.length xc) (List.mem_of_getElem? hx)) (by omega)) ?_
 rintro ⟨v3a,v3c⟩
 refine kOD 0 [0,3,4,14,15,20] [] (.pointer (some ⟨g1,i * 25,none⟩)) rfl (fun _ _ _ ww hr => act_ix (kd := .i64) (T := 46) (e := 108) (K := 25) (g := g1) (N := a.length) (cap := a.length) i rfl hr.1 rfl rfl (by kernel_rfl) (by kernel_rfl) (by kernel_rfl) (by omega) ww) ?_
 refine xl_hs 0 [0,3,4,20,21] ⟨[(0,.v (.slice Aa a.length Ca)),(3,.v (.slice (some ⟨g1,0,none⟩) a.length a.length)),(4,aI (i : Int)),(20,.v (.agg (bc x (cS v3a x v3c)).toArray)),(21,.v (.pointer (some ⟨g1,i * 25,none⟩)))],[],[[iI x.t.ip,iI x.t.port,iI x.t.my,iI x.state,iI x.s.una,.string x.s.data,iI x.s.sent,.bool x.s.fin,.bool x.s.finSent,.bool x.s.done,iI x.r.next,.string x.r.data,.slice xa x.r.held.length xc,iI x.r.fin,.bool x.r.done,iI x.window,iI x.most,iI x.o.mss,iI x.o.scale,.bool x.o.sack,.bool x.o.stamp,iI x.o.val,iI x.o.echo,iI x.timer,iI x.tries]],[aH w.heap.size (cS v3a x v3c) 2 (x.r.held.map pC),aD w.heap.size l,ck w.heap.size 108 25 (.slice (some ⟨g1,0,none⟩) a.length a.length) (l.map ar),a9 (.slice Aa a.length Ca) 25 (a.map ar),ac a]⟩ (by kernel_rfl) rfl (by kernel_rfl) rfl (by kernel_rfl) (HSg.hs (hs_stR (g := g1) (B := w.heap.size) (e := 108) (K := 25) (N := a.length) (cap := a.length) (rs := (l.map ar)) (rs' := (l.set i (((x,.slice v3a x.r.held.length v3c) : CV))).map ar) (v := (.agg (bc x (cS v3a x v3c)).toArray)) (i := 2) (off := i * 25) i 0 [iI z.1.t.ip,iI z.1.t.port,iI z.1.t.my,iI z.1.state,iI z.1.s.una,.string z.1.s.data,iI z.1.s.sent,.bool z.1.s.fin,.bool z.1.s.finSent,.bool z.1.s.done,iI z.1.r.next,.string z.1.r.data,z.2,iI z.1.r.fin,.bool z.1.r.done,iI z.1.window,iI z.1.most,iI z.1.o.mss,iI z.1.o.scale,.bool z.1.o.sack,.bool z.1.o.stamp,iI z.1.o.val,iI z.1.o.echo,iI z.1.timer,iI z.1.tries] (row' := [iI x.t.ip,iI x.t.port,iI x.t.my,iI x.state,iI x.s.una,.string x.s.data,iI x.s.sent,.bool x.s.fin,.bool x.s.finSent,.bool x.s.done,iI x.r.next,.string x.r.data,.slice v3a x.r.held.length v3c,iI x.r.fin,.bool x.r.done,iI x.window,iI x.most,iI x.o.mss,iI x.o.scale,.bool x.o.sack,.bool x.o.stamp,iI x.o.val,iI x.o.echo,iI x.timer,iI x.tries]) rfl rfl (by kernel_rfl) rfl (by kernel_rfl) (by kernel_rfl) (by kernel_rfl) (by kernel_rfl) (Nat.le_refl _) (by simp only [List.getElem?_map,hz]; rfl) (by kernel_rfl) rfl (by rw [List.map_set]; rfl))) ?_
 refine bk [0,3,4] [] <| kG <| kRD 3 [0,3,4] [(4,aI (K6.wrap ((i : Int) + 1)))] <| xl_nv [0,3,4] [(4,aI (K6.wrap ((i : Int) + 1)))] [(4,aI ((i : Int) + 1))] (by rw [show (K6.wrap ((i : Int) + 1)) = ((i : Int) + 1) from bf (by omega) (by omega)]) (by kernel_rfl) ?_
 refine aS [0,3,4] [(0,.v (.slice Aa a.length Ca)),(3,.v (.slice (some ⟨g1,0,none⟩) a.length a.length)),(4,aI ((i : Int) + 1))] ?_
 exact ⟨⟨(i + 1,(l.set i (((x,.slice v3a x.r.held.length v3c) : CV)))),⟨hlt,(by rw [List.length_set]; exact hll),pl_set (x := (x,_)) HK hx (by omega)⟩⟩,kPk [1,2,0,3,4] <| (wk_turn (fun _ _ _ _ h => hown_set (cs := l) (i := i) (x := (((x,.slice v3a x.r.held.length v3c) : CV))) (by omega) h)).trans <| kF 0 0 [0,3,4],by show (fun (i : Nat) (l : List CV) => a.length - i) (i + 1) (l.set i (((x,.slice v3a x.r.held.length v3c) : CV))) < a.length - i; (dsimp only; omega)⟩
 have h2p := of_decide_eq_false h2
 have hge : i = a.length := by simp at h2; omega
 refine bD <| kQ <| aS [2] [(2,.v (.slice (some ⟨g1,0,none⟩) a.length a.length))] <| kR ?_
 have hmc : pl l = pl a := by subst hge; have h1 := HK; rw [← hll] at h1; unfold pl at h1 ⊢; rw [List.take_of_length_le (by simp)] at h1; rw [h1,List.take_of_length_le (by simp; omega)]
 exact ⟨[.slice (some ⟨g1,0,none⟩) a.length a.length],by kernel_rfl,fun w' hb hf ha => xo2 (⟨l,hmc⟩,(((some ⟨g1,0,none⟩) : Option Addr),l.length)) (by show Value.slice _ _ _ = Value.slice _ _ _; rw [hll]) rfl (pW (by have h := hf (ck w.heap.size 108 25 (.slice (some ⟨g1,0,none⟩) a.length a.length) (l.map ar)) (by simp); rw [← hll] at h; exact h) hB) (pH (hf (aD w.heap.size l) (by simp)) hB) (Apart.sub2 ha (i := 1) (j := 0) rfl rfl (by decide) rfl (fun b h => h) (fun b h => hownF_blk h)) hb⟩
theorem ytoTable_c (t : Tab) (t_connsV : Value) (t_waitingV : Value) (w : World) (hl_t_connsV : Sl w t_connsV 25 (t.conns.map ar)) (hh_t_connsV : ∀ x ∈ t.conns, Sl w x.2 2 (x.1.r.held.map pC)) (hl_t_waitingV : Sl w t_waitingV 3 (t.waiting.map a7)) (hfit : ∀ x ∈ t.conns, bZ x.1) (hln : t.conns.length ≤ 1048576) (hlw : t.waiting.length ≤ 1048576) (B : Nat) (hB : B ≤ w.heap.size) : Calls Try.prog 27 #[.agg (bh t t_connsV t_waitingV).toArray] w fun e w' => XRs w w' e (α := {cs : List CV // pl cs = pl t.conns} × (Option Addr × Nat) × (Option Addr × Nat)) (fun y => .agg #[.slice y.2.1.1 y.1.1.length y.2.1.2, .slice y.2.2.1 t.waiting.length y.2.2.2]) (fun y => [ck B 108 25 (.slice y.2.1.1 y.1.1.length y.2.1.2) (y.1.1.map ar), aD B y.1.1, aH B (.slice y.2.2.1 t.waiting.length y.2.2.2) 3 (t.waiting.map a7)]) := by
 obtain ⟨Atc,Ctc,hvtc⟩ := hl_t_connsV.form
 rw [List.length_map] at hvtc; subst hvtc
 have hntc := hl_t_connsV.len; rw [List.length_map] at hntc
 have hqtc := Sl.capLe hl_t_connsV
 obtain ⟨Atw,Ctw,hvtw⟩ := hl_t_waitingV.form
 rw [List.length_map] at hvtw; subst hvtw
 have hntw := hl_t_waitingV.len; rw [List.length_map] at hntw
 have hqtw := Sl.capLe hl_t_waitingV
 refine x_callsA (args := [.agg (bh t (.slice Atc t.conns.length Ctc) (.slice Atw t.waiting.length Ctw)).toArray]) (fn := Try.f27) [a9 (.slice Atc t.conns.length Ctc) 25 (t.conns.map ar),ac t.conns,a9 (.slice Atw t.waiting.length Ctw) 3 (t.waiting.map a7)] Try.func27 rfl Try.ntmps27 rfl (by simp only [List.mem_cons,List.not_mem_nil,or_false,forall_eq_or_imp,forall_eq]; exact ⟨⟨rfl,hl_t_connsV⟩,⟨rfl,hh_t_connsV⟩,⟨rfl,hl_t_waitingV⟩⟩) ?_
 refine kQ <| ct [1,2] ⟨[(1,.p 0 0),(2,.p 1 0)],[⟨34,bh t (.slice Atc t.conns.length Ctc) (.slice Atw t.waiting.length Ctw)⟩,⟨49,[.slice none 0 0,.slice none 0 0]⟩],[],[a9 (.slice Atc t.conns.length Ctc) 25 (t.conns.map ar),ac t.conns,a9 (.slice Atw t.waiting.length Ctw) 3 (t.waiting.map a7)]⟩ <| kQ <| kEA [1,2,3] [(3,.p 2 0)] [⟨49,[.slice none 0 0,.slice none 0 0]⟩] ?_
 refine kQ <| kCD 2 [1,2,3,5] [(5,.v (.slice Atc t.conns.length Ctc))] 63 [.slice Atc t.conns.length Ctc] (some 6) rfl (xc_r fun ww hw hf => ytoConnS_c t.conns (.slice Atc t.conns.length Ctc) ww (hf _ m0) (hf _ m1) (by assumption) (by omega) w.heap.size hw) ?_
 rintro ⟨⟨t1l,ht1l⟩,⟨t1a,t1c⟩⟩
 dsimp only
 refine kEU [1,2,3] [] 2 ⟨49,[.slice t1a t1l.length t1c,.slice none 0 0]⟩ <| kQ <| kCD 2 [2,3,9] [(9,.v (.slice Atw t.waiting.length Ctw))] 64 [.slice Atw t.waiting.length Ctw] (some 10) rfl (xc_on (m := t.waiting.length) (F := fun v' => v') (List.length_map ..) fun ww hf => toTupleS_c (.slice Atw t.waiting.length Ctw) t.waiting ww (hf _ m4) (by omega)) ?_
 rintro ⟨v2a,v2c⟩
 refine kEU [2,3] [] 2 ⟨49,bh { t with conns := t1l } (.slice t1a t1l.length t1c) (.slice v2a t.waiting.length v2c)⟩ <| kQ <| kEU [2] [(2,.p 1 0)] 1 ⟨49,bh { t with conns := t1l } (.slice t1a t1l.length t1c) (.slice v2a t.waiting.length v2c)⟩ <| kR ?_
 have hmc : pl t1l = pl t.conns := by assumption
 exact ⟨[.agg (bh { t with conns := t1l } (.slice t1a t1l.length t1c) (.slice v2a t.waiting.length v2c)).toArray],by kernel_rfl,fun w' hb hf ha => by exact xo3 (⟨t1l,hmc⟩,(t1a,t1c),(v2a,v2c)) rfl rfl (pW (hf _ m1) hB) (pH (hf _ m2) hB) (pO (hf _ m0) hB) (Apart.sub3 ha [1,2,0] rfl (by decide) rfl rfl rfl (by exact fun b h => h) (fun b h => hownF_blk h) (fun b h => h)) hb⟩
theorem yeqConnS_c (a : List CV) (aV : Value) (b : List CV) (bV : Value) (w : World) (hl_aV : Sl w aV 25 (a.map ar)) (hh_aV : ∀ x ∈ a, Sl w x.2 2 (x.1.r.held.map pC)) (hl_bV : Sl w bV 25 (b.map ar)) (hh_bV : ∀ x ∈ b, Sl w x.2 2 (x.1.r.held.map pC)) (hpl : pl a = pl b) : Calls Try.prog 72 #[aV, bV] w fun e w' => e = .returned (.bool true) ∧ Below w.heap.size w w' := by
 obtain ⟨Aa,Ca,hva⟩ := hl_aV.form
 rw [List.length_map] at hva; subst hva
 have hna := hl_aV.len; rw [List.length_map] at hna
 have hqa := Sl.capLe hl_aV
 obtain ⟨Ab,Cb,hvb⟩ := hl_bV.form
 rw [List.length_map] at hvb; subst hvb
 have hnb := hl_bV.len; rw [List.length_map] at hnb
 have hqb := Sl.capLe hl_bV
 have hlab := pl_len hpl
 refine ad (args := [.slice Aa a.length Ca,.slice Ab b.length Cb]) (fn := Try.f72) [a9 (.slice Aa a.length Ca) 25 (a.map ar),ac a,a9 (.slice Ab b.length Cb) 25 (b.map ar),ac b] Try.func72 rfl Try.ntmps72 rfl (by simp only [List.mem_cons,List.not_mem_nil,or_false,forall_eq_or_imp,forall_eq]; exact ⟨⟨rfl,hl_aV⟩,⟨rfl,hh_aV⟩,⟨rfl,hl_bV⟩,⟨rfl,hh_bV⟩⟩) ?_
 refine kQ <| ct [0,1] ⟨[(0,.v (.slice Aa a.length Ca)),(1,.v (.slice Ab b.length Cb))],[],[],[a9 (.slice Aa a.length Ca) 25 (a.map ar),ac a,a9 (.slice Ab b.length Cb) 25 (b.map ar),ac b]⟩ <| kS <| kQ <| bk [0,1,10] [(10,aB (((a.length : Nat) : Int) != ((b.length : Nat) : Int)))] ?_
 refine kC (((a.length : Nat) : Int) != ((b.length : Nat) : Int)) (fun h1 => ?_) (fun h1 => ?_)
 have h1p := neT h1
 exfalso; simp at h1; omega
 have h1p := neF h1
 refine kK <| kS <| kQ <| bk [0,1,5] [(5,aI 0)] ?_
 refine aa <| bd (α := {x : Nat // (fun (i : Nat) => i ≤ a.length) x}) (fun x => (fun (i : Nat) => (⟨[(0,.v (.slice Aa a.length Ca)),(1,.v (.slice Ab b.length Cb)),(5,aI (i : Int))],[],[],[a9 (.slice Aa a.length Ca) 25 (a.map ar),ac a,a9 (.slice Ab b.length Cb) 25 (b.map ar),ac b]⟩ : St)) x.1) (fun x => (fun (i : Nat) => a.length - i) x.1) ⟨(0),Nat.zero_le _⟩ (kF 0 0 [0,1,5]) ?_
 rintro ⟨i,hi⟩
 try dsimp only
 try dsimp only at hi
 refine kS <| kQ <| bk [0,1,5,14] [(14,aB (decide ((i : Int) < ((a.length : Nat) : Int))))] <| kC (decide ((i : Int) < ((a.length : Nat) : Int))) (fun h2 => ?_) (fun h2 => ?_)
 have h2p := of_decide_eq_true h2
 have hlt : i < a.length := by simpa using h2
 obtain ⟨x0,hx⟩ : ∃ x,a[i]? = some x := ⟨_,List.getElem?_eq_getElem hlt⟩
 obtain ⟨x,xa,xc,rfl⟩ := cN (hh_aV x0 (List.mem_of_getElem? hx))
 obtain ⟨u,hu⟩ := pl_get hpl hx
 refine kK <| kS <| aa <| kS <| cw ?_
 refine bj (K := 25) (j := i) [iI x.t.ip,iI x.t.port,iI x.t.my,iI x.state,iI x.s.una,.string x.s.data,iI x.s.sent,.bool x.s.fin,.bool x.s.finSent,.bool x.s.done,iI x.r.next,.string x.r.data,.slice xa x.r.held.length xc,iI x.r.fin,.bool x.r.done,iI x.window,iI x.most,iI x.o.mss,iI x.o.scale,.bool x.o.sack,.bool x.o.stamp,iI x.o.val,iI x.o.echo,iI x.timer,iI x.tries] (a9 (.slice Aa a.length Ca) 25 (a.map ar)) (fun _ _ h => h) (by simp) (fun w h => h) (fun b h => h) (by simp only [List.getElem?_map,hx]; rfl) (fun bq3 offq3 hAq3 => ?_)
 refine bj (K := 25) (j := i) [iI x.t.ip,iI x.t.port,iI x.t.my,iI x.state,iI x.s.una,.string x.s.data,iI x.s.sent,.bool x.s.fin,.bool x.s.finSent,.bool x.s.done,iI x.r.next,.string x.r.data,u,iI x.r.fin,.bool x.r.done,iI x.window,iI x.most,iI x.o.mss,iI x.o.scale,.bool x.o.sack,.bool x.o.stamp,iI x.o.val,iI x.o.echo,iI x.timer,iI x.tries] (a9 (.slice Ab b.length Cb) 25 (b.map ar)) (fun _ _ h => h) (by simp) (fun w h => h) (fun b h => h) (by simp only [List.getElem?_map,hu]; rfl) (fun bq4 offq4 hAq4 => ?_)
 refine bg [] (by kernel_rfl) (fun ρ σ hq5 => ?_)
 refine kTD [0,1,4,5] [22,21,18,17,0,1,5] 6 [(22,aI (i : Int)),(21,.v (.slice Ab b.length Cb)),(18,aI (i : Int)),(17,.v (.slice Aa a.length Ca))] <| aA (kd := .i64) (T := 46) (e := 108) (K := 25) (j := i) (A := Aa) (len := a.length) (cap := Ca) 2 0 _ rfl (by kernel_rfl) (by kernel_rfl) (by kernel_rfl) (fun _ _ h => h) (by kernel_rfl) rfl rfl (by kernel_rfl) (by kernel_rfl) (by kernel_rfl) (by kernel_rfl) hlt hAq3 hq5.1.2 (by kernel_rfl) rfl ?_
 refine kTD [3] [20,22,21,0,1,5] 4 [(20,.v (.agg (bc x (cS xa x xc)).toArray))] <| aA (kd := .i64) (T := 46) (e := 108) (K := 25) (j := i) (A := Ab) (len := b.length) (cap := Cb) 6 1 _ rfl (by kernel_rfl) (by kernel_rfl) (by kernel_rfl) (fun _ _ h => h) (by kernel_rfl) rfl rfl (by kernel_rfl) (by kernel_rfl) (by kernel_rfl) (by kernel_rfl) (by omega) hAq4 hq5.2 (by kernel_rfl) rfl ?_
 refine kTD [7] [24,20,0,1,5] 2 [(24,.v (.agg (bc x u).toArray))] <| kA [8] <| kSC 8 107 [.agg (bc x (cS xa x xc)).toArray,.agg (bc x u).toArray] (some 25) rfl (bL fun ww hf => eqConn_c x.t.ip x.t.port x.t.my x.state x.s.una x.s.data x.s.sent x.s.fin x.s.finSent x.s.done x.r.next x.r.data x.r.held (cS xa x xc) x.r.fin x.r.done x.window x.most x.o.mss x.o.scale x.o.sack x.o.stamp x.o.val x.o.echo x.timer x.tries u ww ((hf _ m1) (x,.slice xa x.r.held.length xc) (List.mem_of_getElem? hx)) ((hf _ m3) (x,u) (List.mem_of_getElem? hu))) ?_
 intro _
 refine kTD [9] [26,0,1,5] 0 [(26,aB false)] <| kZ <| kN <| kK <| kG <| kRD 3 [0,1,5] [(5,aI (K6.wrap ((i : Int) + 1)))] ?_
 refine xl_nv [0,1,5] [(5,aI (K6.wrap ((i : Int) + 1)))] [(5,aI ((i : Int) + 1))] (by rw [show (K6.wrap ((i : Int) + 1)) = ((i : Int) + 1) from bf (by omega) (by omega)]) (by kernel_rfl) ?_
 refine bk [0,1,5] [] ?_
 exact ⟨⟨(i + 1),hlt⟩,kF 0 0 [0,1,5],by show (fun (i : Nat) => a.length - i) (i + 1) < a.length - i; (dsimp only; omega)⟩
 have h2p := of_decide_eq_false h2
 have hge : i = a.length := by simp at h2; omega
 refine bD <| kQ <| aS [4] [(4,aB true)] <| kR ?_
 exact ⟨[.bool true],by kernel_rfl,fun w' hb hf => ⟨rfl,hb⟩⟩
theorem yeqTable_c (a : List CV) (wt : List Tup) (pc : Value) (pw : Value) (b : List CV) (qc : Value) (qw : Value) (w : World) (hl_pc : Sl w pc 25 (a.map ar)) (hh_pc : ∀ x ∈ a, Sl w x.2 2 (x.1.r.held.map pC)) (hl_pw : Sl w pw 3 (wt.map a7)) (hl_qc : Sl w qc 25 (b.map ar)) (hh_qc : ∀ x ∈ b, Sl w x.2 2 (x.1.r.held.map pC)) (hl_qw : Sl w qw 3 (wt.map a7)) (hpl : pl a = pl b) : Calls Try.prog 34 #[.agg #[pc, pw], .agg #[qc, qw]] w fun e w' => e = .returned (.bool true) ∧ Below w.heap.size w w' := by
 obtain ⟨ra_pc,rc_pc,hv_pc⟩ := hl_pc.form
 rw [List.length_map] at hv_pc; subst hv_pc
 have hn_pc := hl_pc.len; rw [List.length_map] at hn_pc
 have hq_pc := Sl.capLe hl_pc
 obtain ⟨ra_pw,rc_pw,hv_pw⟩ := hl_pw.form
 rw [List.length_map] at hv_pw; subst hv_pw
 have hn_pw := hl_pw.len; rw [List.length_map] at hn_pw
 have hq_pw := Sl.capLe hl_pw
 obtain ⟨ra_qc,rc_qc,hv_qc⟩ := hl_qc.form
 rw [List.length_map] at hv_qc; subst hv_qc
 have hn_qc := hl_qc.len; rw [List.length_map] at hn_qc
 have hq_qc := Sl.capLe hl_qc
 obtain ⟨ra_qw,rc_qw,hv_qw⟩ := hl_qw.form
 rw [List.length_map] at hv_qw; subst hv_qw
 have hn_qw := hl_qw.len; rw [List.length_map] at hn_qw
 have hq_qw := Sl.capLe hl_qw
 refine ad (args := [.agg #[.slice ra_pc a.length rc_pc,.slice ra_pw wt.length rc_pw],.agg #[.slice ra_qc b.length rc_qc,.slice ra_qw wt.length rc_qw]]) (fn := Try.f34) [a9 (.slice ra_pc a.length rc_pc) 25 (a.map ar),ac a,a9 (.slice ra_pw wt.length rc_pw) 3 (wt.map a7),a9 (.slice ra_qc b.length rc_qc) 25 (b.map ar),ac b,a9 (.slice ra_qw wt.length rc_qw) 3 (wt.map a7)] Try.func34 rfl Try.ntmps34 rfl (by simp only [List.mem_cons,List.not_mem_nil,or_false,forall_eq_or_imp,forall_eq]; exact ⟨⟨rfl,hl_pc⟩,⟨rfl,hh_pc⟩,⟨rfl,hl_pw⟩,⟨rfl,hl_qc⟩,⟨rfl,hh_qc⟩,⟨rfl,hl_qw⟩⟩) ?_
 refine kQ <| ct [2,3] ⟨[(2,.p 0 0),(3,.p 1 0)],[⟨49,[.slice ra_pc a.length rc_pc,.slice ra_pw wt.length rc_pw]⟩,⟨49,[.slice ra_qc b.length rc_qc,.slice ra_qw wt.length rc_qw]⟩],[],[a9 (.slice ra_pc a.length rc_pc) 25 (a.map ar),ac a,a9 (.slice ra_pw wt.length rc_pw) 3 (wt.map a7),a9 (.slice ra_qc b.length rc_qc) 25 (b.map ar),ac b,a9 (.slice ra_qw wt.length rc_qw) 3 (wt.map a7)]⟩ <| kS <| kQ <| kCD 4 [2,3,6,8] [(6,.v (.slice ra_pc a.length rc_pc)),(8,.v (.slice ra_qc b.length rc_qc))] 72 [.slice ra_pc a.length rc_pc,.slice ra_qc b.length rc_qc] (some 9) rfl (bL fun ww hf => yeqConnS_c a (.slice ra_pc a.length rc_pc) b (.slice ra_qc b.length rc_qc) ww (hf _ m0) (hf _ m1) (hf _ m3) (hf _ m4) (by first | assumption | (simp only [*]; done))) ?_
 intro _
 refine bk [2,3,10] [(10,aB false)] <| kN <| kK <| kS <| kQ <| kCS 4 [12,14] [(12,.v (.slice ra_pw wt.length rc_pw)),(14,.v (.slice ra_qw wt.length rc_qw))] 73 [.slice ra_pw wt.length rc_pw,.slice ra_qw wt.length rc_qw] (some 15) rfl (bL fun ww hf => eqTupleS_c (.slice ra_pw wt.length rc_pw) (.slice ra_qw wt.length rc_qw) wt ww (hf _ m2) (hf _ m5)) ?_
 intro _
 refine aS [16] [(16,aB false)] <| kN <| kK <| kQ <| aS [4] [(4,aB true)] ?_
 refine kR ?_
 exact ⟨[.bool true],by kernel_rfl,fun w' hb hf => ⟨rfl,hb⟩⟩
theorem ytoLimits_c (l : Lim) (w : World)  : Calls Try.prog 25 #[.agg (bJ l).toArray] w fun e w' => e = .returned (.agg (bJ l).toArray) ∧ Below w.heap.size w w' := by
 refine ad (args := [.agg (bJ l).toArray]) (fn := Try.f25) [] Try.func25 rfl Try.ntmps25 rfl (by simp) ?_
 refine kQ <| ct [1,2] ⟨[(1,.p 0 0),(2,.p 1 0)],[⟨29,bJ l⟩,⟨44,[iI 0,iI 0,iI 0,iI 0]⟩],[],[]⟩ <| kQ <| ct [1,2,3] ⟨[(1,.p 0 0),(2,.p 1 0),(3,.p 2 0)],[⟨29,bJ l⟩,⟨44,[iI 0,iI 0,iI 0,iI 0]⟩,⟨44,[iI 0,iI 0,iI 0,iI 0]⟩],[],[]⟩ ?_
 refine kQ <| ct [1,2,3] ⟨[(1,.p 0 0),(2,.p 1 0),(3,.p 2 0)],[⟨29,bJ l⟩,⟨44,[iI 0,iI 0,iI 0,iI 0]⟩,⟨44,[iI l.halves,iI 0,iI 0,iI 0]⟩],[],[]⟩ <| kQ <| ct [1,2,3] ⟨[(1,.p 0 0),(2,.p 1 0),(3,.p 2 0)],[⟨29,bJ l⟩,⟨44,[iI 0,iI 0,iI 0,iI 0]⟩,⟨44,bJ { l with conns := 0,chal := 0 }⟩],[],[]⟩ ?_
 refine kQ <| ct [1,2,3] ⟨[(1,.p 0 0),(2,.p 1 0),(3,.p 2 0)],[⟨29,bJ l⟩,⟨44,[iI 0,iI 0,iI 0,iI 0]⟩,⟨44,bJ { l with chal := 0 }⟩],[],[]⟩ <| kQ <| ct [2,3] ⟨[(2,.p 1 0),(3,.p 2 0)],[⟨29,bJ l⟩,⟨44,[iI 0,iI 0,iI 0,iI 0]⟩,⟨44,bJ l⟩],[],[]⟩ ?_
 refine kQ <| ct [2] ⟨[(2,.p 1 0)],[⟨29,bJ l⟩,⟨44,bJ l⟩,⟨44,bJ l⟩],[],[]⟩ <| kR ?_
 exact ⟨[.agg (bJ l).toArray],by kernel_rfl,fun w' hb hf => ⟨rfl,hb⟩⟩
theorem yszMacRow_c (a : Mrw) (left : Int) (w : World) (h0 : 0 ≤ left) (h1 : left ≤ 1048576) (hm : a.input.size ≤ maxLen) : Calls Try.prog 120 #[.agg (mrwL a).toArray, iI left] w fun e w' => ∃ r : Int, e = .returned (iI r) ∧ (r = -1 ∨ (0 ≤ r ∧ r ≤ left ∧ (a.input.size : Int) ≤ left)) ∧ Below w.heap.size w w' := by
 unfold maxLen at hm
 refine ad (args := [.agg (mrwL a).toArray,iI left]) (fn := Try.f120) [] Try.func120 rfl Try.ntmps120 rfl (by simp) ?_
 refine kQ <| ct [1,2] ⟨[(1,aI left),(2,.p 0 0)],[⟨157,mrwL a⟩],[],[]⟩ <| kQ <| co 6 [1] [(1,aI (K6.wrap (left - (a.input.size : Int))))] ?_
 refine xl_nv [1] [(1,aI (K6.wrap (left - (a.input.size : Int))))] [(1,aI (left - (a.input.size : Int)))] (by rw [show (K6.wrap (left - (a.input.size : Int))) = (left - (a.input.size : Int)) from bf (by omega) (by omega)]) (by kernel_rfl) ?_
 refine bk [1] [] <| kS <| kQ <| bk [1,11] [(11,aB (decide ((left - (a.input.size : Int)) < 0)))] ?_
 refine kC (decide ((left - (a.input.size : Int)) < 0)) (fun h1 => ?_) (fun h1 => ?_)
 have h1p := of_decide_eq_true h1
 refine kQ <| aS [4] [(4,aI (-1))] <| kR ?_
 exact ⟨[iI (-1)],by kernel_rfl,fun w' hb hf => ⟨_,rfl,.inl rfl,hb⟩⟩
 have h1p := of_decide_eq_false h1
 refine kK <| kQ <| aS [4] [(4,aI (left - (a.input.size : Int)))] <| kR ?_
 exact ⟨[iI (left - (a.input.size : Int))],by kernel_rfl,fun w' hb hf => ⟨_,rfl,.inr ⟨by omega,by omega,by omega⟩,hb⟩⟩
theorem all_pre {α : Type} {p : α → Prop} {l : List α} {i : Nat} {x : α} (h : ∀ (j : Nat) (x : α), j < i → l[j]? = some x → p x) (hx : l[i]? = some x) (hp : p x) : ∀ (j : Nat) (x : α), j < i + 1 → l[j]? = some x → p x := fun j y hj hy => by
 rcases Nat.lt_succ_iff_lt_or_eq.1 hj with hj | rfl
 · exact h j y hj hy
 · rw [hx] at hy; simp only [Option.some.injEq] at hy; subst hy; exact hp
theorem all_end {α : Type} {p : α → Prop} {l : List α} {i : Nat} (hi : i = l.length) (h : ∀ (j : Nat) (x : α), j < i → l[j]? = some x → p x) : ∀ x ∈ l, p x := fun x hx => by
 obtain ⟨j,hj⟩ := List.getElem?_of_mem hx
 exact h j x (by rw [hi]; exact (List.getElem?_eq_some_iff.1 hj).1) hj
theorem yszMacRowS_c (a : List Mrw) (aV : Value) (left : Int) (w : World) (hl_aV : Sl w aV 2 (a.map a5)) (h0 : 0 ≤ left) (h1 : left ≤ 1048576) (hm : ∀ p ∈ a, p.input.size ≤ maxLen) : Calls Try.prog 97 #[aV, iI left] w fun e w' => ∃ r : Int, e = .returned (iI r) ∧ (r = -1 ∨ (0 ≤ r ∧ r ≤ left ∧ (a.length : Int) ≤ left ∧ ∀ p ∈ a, (p.input.size : Int) ≤ left)) ∧ Below w.heap.size w w' := by
 obtain ⟨Aa,Ca,hva⟩ := hl_aV.form
 rw [List.length_map] at hva; subst hva
 have hna := hl_aV.len; rw [List.length_map] at hna
 have hqa := Sl.capLe hl_aV
 refine ad (args := [.slice Aa a.length Ca,iI left]) (fn := Try.f97) [a9 (.slice Aa a.length Ca) 2 (a.map a5)] Try.func97 rfl Try.ntmps97 rfl (by simp only [List.mem_cons,List.not_mem_nil,or_false,forall_eq_or_imp,forall_eq]; exact ⟨rfl,hl_aV⟩) ?_
 refine kQ <| ct [0,1] ⟨[(0,.v (.slice Aa a.length Ca)),(1,aI left)],[],[],[a9 (.slice Aa a.length Ca) 2 (a.map a5)]⟩ <| kQ <| kRD 5 [0,1] [(1,aI (K6.wrap (left - ((a.length : Nat) : Int))))] ?_
 refine xl_nv [0,1] [(1,aI (K6.wrap (left - ((a.length : Nat) : Int))))] [(1,aI (left - ((a.length : Nat) : Int)))] (by rw [show (K6.wrap (left - ((a.length : Nat) : Int))) = (left - ((a.length : Nat) : Int)) from bf (by omega) (by omega)]) (by kernel_rfl) ?_
 refine bk [0,1] [] <| kS <| kQ <| bk [0,1,11] [(11,aB (decide ((left - ((a.length : Nat) : Int)) < 0)))] ?_
 refine kC (decide ((left - ((a.length : Nat) : Int)) < 0)) (fun h1 => ?_) (fun h1 => ?_)
 have h1p := of_decide_eq_true h1
 refine kQ <| aS [4] [(4,aI (-1))] <| kR ?_
 exact ⟨[iI (-1)],by kernel_rfl,fun w' hb hf => ⟨_,rfl,.inl rfl,hb⟩⟩
 have h1p := of_decide_eq_false h1
 refine kK <| kS <| kQ <| bk [0,1,5] [(5,aI 0)] ?_
 refine aa <| bd (α := {x : Nat × Int // (fun (i : Nat) (z : Int) => i ≤ a.length ∧ 0 ≤ z ∧ z ≤ left - (a.length : Int) ∧ ∀ (j : Nat) (x : Mrw),j < i → a[j]? = some x → (x.input.size : Int) ≤ left) x.1 x.2}) (fun x => (fun (i : Nat) (z : Int) => (⟨[(0,.v (.slice Aa a.length Ca)),(1,aI z),(5,aI (i : Int))],[],[],[a9 (.slice Aa a.length Ca) 2 (a.map a5)]⟩ : St)) x.1.1 x.1.2) (fun x => (fun (i : Nat) (z : Int) => a.length - i) x.1.1 x.1.2) ⟨(0,left - ((a.length : Nat) : Int)),⟨Nat.zero_le _,(by first | omega | (simp at *; omega)),(by omega),(fun j x hj => by omega)⟩⟩ (kF 0 0 [0,1,5]) ?_
 rintro ⟨⟨i,z⟩,hi,hz0,hz1,HK⟩
 try dsimp only
 try dsimp only at hi hz0 hz1 HK
 refine kS <| kQ <| bk [0,1,5,15] [(15,aB (decide ((i : Int) < ((a.length : Nat) : Int))))] <| kC (decide ((i : Int) < ((a.length : Nat) : Int))) (fun h2 => ?_) (fun h2 => ?_)
 have h2p := of_decide_eq_true h2
 have hlt : i < a.length := by simpa using h2
 obtain ⟨x,hx⟩ : ∃ x,a[i]? = some x := ⟨_,List.getElem?_eq_getElem hlt⟩
 have hmx := hm _ (List.mem_of_getElem? hx)
 refine kK <| kS <| aa <| kQ <| cU (kd := .i64) (T := 23) (e := 157) (K := 2) 2 [0,1,5,18,19] [(18,.v (.slice Aa a.length Ca)),(19,aI (i : Int))] i [.string x.input,iI x.value] (a9 (.slice Aa a.length Ca) 2 (a.map a5)) (by kernel_rfl) rfl (by kernel_rfl) rfl rfl (by kernel_rfl) (by kernel_rfl) (by kernel_rfl) (by kernel_rfl) hlt (by simp) (fun w h => h) (fun b h => h) (by simp only [List.getElem?_map,hx]; rfl) ?_
 refine kCD 2 [0,1,5,21,22] [(21,.v (.agg (mrwL x).toArray)),(22,aI z)] 120 [.agg (mrwL x).toArray,iI z] (some 23) rfl (xc_e (α := Int) (F := fun y => iI y) (p := fun r => r = -1 ∨ (0 ≤ r ∧ r ≤ z ∧ (x.input.size : Int) ≤ z)) fun ww hf => yszMacRow_c x z ww (by omega) (by omega) hmx) ?_
 rintro ⟨r3,hr3⟩
 refine bk [0,1,5] [(1,aI r3)] <| kQ <| bk [0,1,5,25] [(25,aB (decide (r3 < 0)))] <| kC (decide (r3 < 0)) (fun h4 => ?_) (fun h4 => ?_)
 have h4p := of_decide_eq_true h4
 refine kQ <| aS [4] [(4,aI (-1))] <| kR ?_
 exact ⟨[iI (-1)],by kernel_rfl,fun w' hb hf => ⟨_,rfl,.inl rfl,hb⟩⟩
 have h4p := of_decide_eq_false h4
 rcases hr3 with hr3 | ⟨hr3a,hr3b,hr3c⟩
 · omega
 refine kK <| kG <| co 3 [0,1,5] [(0,.v (.slice Aa a.length Ca)),(1,aI r3),(5,aI (K6.wrap ((i : Int) + 1)))] <| xl_eqS (t' := [(0,.v (.slice Aa a.length Ca)),(1,aI r3),(5,aI ((i : Int) + 1))]) (by rw [show (K6.wrap ((i : Int) + 1)) = ((i : Int) + 1) from bf (by omega) (by omega)]) ?_
 refine bk [0,1,5] [] ?_
 exact ⟨⟨(i + 1,r3),⟨hlt,by omega,by omega,all_pre HK hx (by omega)⟩⟩,kF 0 0 [0,1,5],by show (fun (i : Nat) (z : Int) => a.length - i) (i + 1) r3 < a.length - i; (dsimp only; omega)⟩
 have h2p := of_decide_eq_false h2
 have hge : i = a.length := by simp at h2; omega
 refine bD <| kQ <| aS [4] [(4,aI z)] <| kR ?_
 exact ⟨[iI z],by kernel_rfl,fun w' hb hf => ⟨_,rfl,.inr ⟨by omega,by omega,by omega,all_end (p := fun x : Mrw => (x.input.size : Int) ≤ left) hge HK⟩,hb⟩⟩
theorem yszMac_c (m : Mac) (m_rowsV : Value) (left : Int) (w : World) (hl_m_rowsV : Sl w m_rowsV 2 (m.rows.map a5)) (h0 : 0 ≤ left) (h1 : left ≤ 1048576) (hm_m_rowsV : ∀ p ∈ m.rows, p.input.size ≤ maxLen) : Calls Try.prog 56 #[.agg (aW m m_rowsV).toArray, iI left] w fun e w' => ∃ r : Int, e = .returned (iI r) ∧ (r = -1 ∨ (0 ≤ r ∧ r ≤ left ∧ (m.rows.length : Int) ≤ left ∧ ∀ p ∈ m.rows, (p.input.size : Int) ≤ left)) ∧ Below w.heap.size w w' := by
 obtain ⟨Amr,Cmr,hvmr⟩ := hl_m_rowsV.form
 rw [List.length_map] at hvmr; subst hvmr
 have hnmr := hl_m_rowsV.len; rw [List.length_map] at hnmr
 have hqmr := Sl.capLe hl_m_rowsV
 refine ad (args := [.agg (aW m (.slice Amr m.rows.length Cmr)).toArray,iI left]) (fn := Try.f56) [a9 (.slice Amr m.rows.length Cmr) 2 (m.rows.map a5)] Try.func56 rfl Try.ntmps56 rfl (by simp only [List.mem_cons,List.not_mem_nil,or_false,forall_eq_or_imp,forall_eq]; exact ⟨rfl,hl_m_rowsV⟩) ?_
 refine kQ <| ct [1,2] ⟨[(1,aI left),(2,.p 0 0)],[⟨25,aW m (.slice Amr m.rows.length Cmr)⟩],[],[a9 (.slice Amr m.rows.length Cmr) 2 (m.rows.map a5)]⟩ <| kQ <| kCD 3 [1,6,7] [(6,.v (.slice Amr m.rows.length Cmr)),(7,aI left)] 97 [.slice Amr m.rows.length Cmr,iI left] (some 8) rfl (xc_e (α := Int) (F := fun y => iI y) (p := fun r => r = -1 ∨ (0 ≤ r ∧ r ≤ left ∧ (m.rows.length : Int) ≤ left ∧ ∀ p ∈ m.rows,(p.input.size : Int) ≤ left)) fun ww hf => yszMacRowS_c m.rows (.slice Amr m.rows.length Cmr) left ww (hf _ m0) (by omega) (by omega) hm_m_rowsV) ?_
 rintro ⟨r1,hr1⟩
 refine aS [1] [(1,aI r1)] <| kS <| kQ <| bk [1,10] [(10,aB (decide (r1 < 0)))] ?_
 refine kC (decide (r1 < 0)) (fun h2 => ?_) (fun h2 => ?_)
 have h2p := of_decide_eq_true h2
 refine kQ <| aS [4] [(4,aI (-1))] <| kR ?_
 exact ⟨[iI (-1)],by kernel_rfl,fun w' hb hf => ⟨_,rfl,.inl rfl,hb⟩⟩
 have h2p := of_decide_eq_false h2
 rcases hr1 with hr1 | ⟨hr1a,hr1b,hr1n,hr1c⟩
 · omega
 refine kK <| kQ <| aS [4] [(4,aI r1)] <| kR ?_
 exact ⟨[iI r1],by kernel_rfl,fun w' hb hf => ⟨_,rfl,.inr ⟨by omega,by omega,by omega,hr1c⟩,hb⟩⟩
theorem yszKeys_c (k : Kys) (k_now_rowsV : Value) (k_before_rowsV : Value) (left : Int) (w : World) (hl_k_now_rowsV : Sl w k_now_rowsV 2 (k.now.rows.map a5)) (hl_k_before_rowsV : Sl w k_before_rowsV 2 (k.before.rows.map a5)) (h0 : 0 ≤ left) (h1 : left ≤ 1048576) (hm_k_now_rowsV : ∀ p ∈ k.now.rows, p.input.size ≤ maxLen) (hm_k_before_rowsV : ∀ p ∈ k.before.rows, p.input.size ≤ maxLen) : Calls Try.prog 18 #[.agg (aC k k_now_rowsV k_before_rowsV).toArray, iI left] w fun e w' => ∃ r : Int, e = .returned (iI r) ∧ (r = -1 ∨ (0 ≤ r ∧ r ≤ left ∧ (k.now.rows.length : Int) ≤ left ∧ (∀ p ∈ k.now.rows, (p.input.size : Int) ≤ left) ∧ (k.before.rows.length : Int) ≤ left ∧ (∀ p ∈ k.before.rows, (p.input.size : Int) ≤ left))) ∧ Below w.heap.size w w' := by
 obtain ⟨Aknr,Cknr,hvknr⟩ := hl_k_now_rowsV.form
 rw [List.length_map] at hvknr; subst hvknr
 have hnknr := hl_k_now_rowsV.len; rw [List.length_map] at hnknr
 have hqknr := Sl.capLe hl_k_now_rowsV
 obtain ⟨Akbr,Ckbr,hvkbr⟩ := hl_k_before_rowsV.form
 rw [List.length_map] at hvkbr; subst hvkbr
 have hnkbr := hl_k_before_rowsV.len; rw [List.length_map] at hnkbr
 have hqkbr := Sl.capLe hl_k_before_rowsV
 refine ad (args := [.agg (aC k (.slice Aknr k.now.rows.length Cknr) (.slice Akbr k.before.rows.length Ckbr)).toArray,iI left]) (fn := Try.f18) [a9 (.slice Aknr k.now.rows.length Cknr) 2 (k.now.rows.map a5),a9 (.slice Akbr k.before.rows.length Ckbr) 2 (k.before.rows.map a5)] Try.func18 rfl Try.ntmps18 rfl (by simp only [List.mem_cons,List.not_mem_nil,or_false,forall_eq_or_imp,forall_eq]; exact ⟨⟨rfl,hl_k_now_rowsV⟩,⟨rfl,hl_k_before_rowsV⟩⟩) ?_
 refine kQ <| ct [1,2] ⟨[(1,aI left),(2,.p 0 0)],[⟨27,aC k (.slice Aknr k.now.rows.length Cknr) (.slice Akbr k.before.rows.length Ckbr)⟩],[],[a9 (.slice Aknr k.now.rows.length Cknr) 2 (k.now.rows.map a5),a9 (.slice Akbr k.before.rows.length Ckbr) 2 (k.before.rows.map a5)]⟩ <| kQ <| kCD 3 [1,2,6,7] [(6,.v (.agg (aW k.now (.slice Aknr k.now.rows.length Cknr)).toArray)),(7,aI left)] 56 [.agg (aW k.now (.slice Aknr k.now.rows.length Cknr)).toArray,iI left] (some 8) rfl (xc_e (α := Int) (F := fun y => iI y) (p := fun r => r = -1 ∨ (0 ≤ r ∧ r ≤ left ∧ (k.now.rows.length : Int) ≤ left ∧ ∀ p ∈ k.now.rows,(p.input.size : Int) ≤ left)) fun ww hf => yszMac_c k.now (.slice Aknr k.now.rows.length Cknr) left ww (hf _ m0) (by omega) (by omega) hm_k_now_rowsV) ?_
 rintro ⟨r1,hr1⟩
 refine bk [1,2] [(1,aI r1)] <| kS <| kQ <| bk [1,2,10] [(10,aB (decide (r1 < 0)))] ?_
 refine kC (decide (r1 < 0)) (fun h2 => ?_) (fun h2 => ?_)
 have h2p := of_decide_eq_true h2
 refine kQ <| aS [4] [(4,aI (-1))] <| kR ?_
 exact ⟨[iI (-1)],by kernel_rfl,fun w' hb hf => ⟨_,rfl,.inl rfl,hb⟩⟩
 have h2p := of_decide_eq_false h2
 rcases hr1 with hr1 | ⟨hr1a,hr1b,hr1n,hr1c⟩
 · omega
 refine kK <| kQ <| kCD 3 [1,12,13] [(12,.v (.agg (aW k.before (.slice Akbr k.before.rows.length Ckbr)).toArray)),(13,aI r1)] 56 [.agg (aW k.before (.slice Akbr k.before.rows.length Ckbr)).toArray,iI r1] (some 14) rfl (xc_e (α := Int) (F := fun y => iI y) (p := fun r => r = -1 ∨ (0 ≤ r ∧ r ≤ r1 ∧ (k.before.rows.length : Int) ≤ r1 ∧ ∀ p ∈ k.before.rows,(p.input.size : Int) ≤ r1)) fun ww hf => yszMac_c k.before (.slice Akbr k.before.rows.length Ckbr) r1 ww (hf _ m1) (by omega) (by omega) hm_k_before_rowsV) ?_
 rintro ⟨r3,hr3⟩
 refine aS [1] [(1,aI r3)] <| kS <| kQ <| bk [1,16] [(16,aB (decide (r3 < 0)))] ?_
 refine kC (decide (r3 < 0)) (fun h4 => ?_) (fun h4 => ?_)
 have h4p := of_decide_eq_true h4
 refine kQ <| aS [4] [(4,aI (-1))] <| kR ?_
 exact ⟨[iI (-1)],by kernel_rfl,fun w' hb hf => ⟨_,rfl,.inl rfl,hb⟩⟩
 have h4p := of_decide_eq_false h4
 rcases hr3 with hr3 | ⟨hr3a,hr3b,hr3n,hr3c⟩
 · omega
 refine kK <| kQ <| aS [4] [(4,aI r3)] <| kR ?_
 exact ⟨[iI r3],by kernel_rfl,fun w' hb hf => ⟨_,rfl,.inr ⟨by omega,by omega,by omega,fun p hp => by have := hr1c p hp; omega,by omega,fun p hp => by have := hr3c p hp; omega⟩,hb⟩⟩
theorem yszDoor_c (d : Dor) (d_keys_now_rowsV : Value) (d_keys_before_rowsV : Value) (d_halvesV : Value) (d_table_connsV : Value) (d_table_waitingV : Value) (left : Int) (w : World) (hl_d_keys_now_rowsV : Sl w d_keys_now_rowsV 2 (d.keys.now.rows.map a5)) (hl_d_keys_before_rowsV : Sl w d_keys_before_rowsV 2 (d.keys.before.rows.map a5)) (hl_d_halvesV : Sl w d_halvesV 13 (d.halves.map a8)) (hl_d_table_connsV : Sl w d_table_connsV 25 (d.table.conns.map ar)) (hh_d_table_connsV : ∀ x ∈ d.table.conns, Sl w x.2 2 (x.1.r.held.map pC)) (hl_d_table_waitingV : Sl w d_table_waitingV 3 (d.table.waiting.map a7)) (h0 : 0 ≤ left) (h1 : left ≤ 1048576) (hm_d_keys_now_rowsV : ∀ p ∈ d.keys.now.rows, p.input.size ≤ maxLen) (hm_d_keys_before_rowsV : ∀ p ∈ d.keys.before.rows, p.input.size ≤ maxLen) (hm_d_table_connsV : ∀ x ∈ d.table.conns, conMax x.1) : Calls Try.prog 6 #[.agg (aZ d d_keys_now_rowsV d_keys_before_rowsV d_halvesV d_table_connsV d_table_waitingV).toArray, iI left] w fun e w' => ∃ r : Int, e = .returned (iI r) ∧ (r = -1 ∨ (r ≤ left ∧ 0 ≤ r ∧ (d.keys.now.rows.length : Int) ≤ 1048576 ∧ (∀ p ∈ d.keys.now.rows, (p.input.size : Int) ≤ 1048576) ∧ (d.keys.before.rows.length : Int) ≤ 1048576 ∧ (∀ p ∈ d.keys.before.rows, (p.input.size : Int) ≤ 1048576) ∧ d.halves.length ≤ 1048576 ∧ (∀ x ∈ d.table.conns, bZ x.1) ∧ d.table.conns.length ≤ 1048576 ∧ d.table.waiting.length ≤ 1048576)) ∧ Below w.heap.size w w' := by
 obtain ⟨Adknr,Cdknr,hvdknr⟩ := hl_d_keys_now_rowsV.form
 rw [List.length_map] at hvdknr; subst hvdknr
 have hndknr := hl_d_keys_now_rowsV.len; rw [List.length_map] at hndknr
 have hqdknr := Sl.capLe hl_d_keys_now_rowsV
 obtain ⟨Adkbr,Cdkbr,hvdkbr⟩ := hl_d_keys_before_rowsV.form
 rw [List.length_map] at hvdkbr; subst hvdkbr
 have hndkbr := hl_d_keys_before_rowsV.len; rw [List.length_map] at hndkbr
 have hqdkbr := Sl.capLe hl_d_keys_before_rowsV
 obtain ⟨Adh,Cdh,hvdh⟩ := hl_d_halvesV.form
 rw [List.length_map] at hvdh; subst hvdh
 have hndh := hl_d_halvesV.len; rw [List.length_map] at hndh
 have hqdh := Sl.capLe hl_d_halvesV
 obtain ⟨Adtc,Cdtc,hvdtc⟩ := hl_d_table_connsV.form
 rw [List.length_map] at hvdtc; subst hvdtc
 have hndtc := hl_d_table_connsV.len; rw [List.length_map] at hndtc
 have hqdtc := Sl.capLe hl_d_table_connsV
 obtain ⟨Adtw,Cdtw,hvdtw⟩ := hl_d_table_waitingV.form
 rw [List.length_map] at hvdtw; subst hvdtw
 have hndtw := hl_d_table_waitingV.len; rw [List.length_map] at hndtw
 have hqdtw := Sl.capLe hl_d_table_waitingV
 refine ad (args := [.agg (aZ d (.slice Adknr d.keys.now.rows.length Cdknr) (.slice Adkbr d.keys.before.rows.length Cdkbr) (.slice Adh d.halves.length Cdh) (.slice Adtc d.table.conns.length Cdtc) (.slice Adtw d.table.waiting.length Cdtw)).toArray,iI left]) (fn := Try.f6) [a9 (.slice Adknr d.keys.now.rows.length Cdknr) 2 (d.keys.now.rows.map a5),a9 (.slice Adkbr d.keys.before.rows.length Cdkbr) 2 (d.keys.before.rows.map a5),a9 (.slice Adh d.halves.length Cdh) 13 (d.halves.map a8),a9 (.slice Adtc d.table.conns.length Cdtc) 25 (d.table.conns.map ar),ac d.table.conns,a9 (.slice Adtw d.table.waiting.length Cdtw) 3 (d.table.waiting.map a7)] Try.func6 rfl Try.ntmps6 rfl (by simp only [List.mem_cons,List.not_mem_nil,or_false,forall_eq_or_imp,forall_eq]; exact ⟨⟨rfl,hl_d_keys_now_rowsV⟩,⟨rfl,hl_d_keys_before_rowsV⟩,⟨rfl,hl_d_halvesV⟩,⟨rfl,hl_d_table_connsV⟩,⟨rfl,hh_d_table_connsV⟩,⟨rfl,hl_d_table_waitingV⟩⟩) ?_
 refine kQ <| ct [1,2] ⟨[(1,aI left),(2,.p 0 0)],[⟨36,aZ d (.slice Adknr d.keys.now.rows.length Cdknr) (.slice Adkbr d.keys.before.rows.length Cdkbr) (.slice Adh d.halves.length Cdh) (.slice Adtc d.table.conns.length Cdtc) (.slice Adtw d.table.waiting.length Cdtw)⟩],[],[a9 (.slice Adknr d.keys.now.rows.length Cdknr) 2 (d.keys.now.rows.map a5),a9 (.slice Adkbr d.keys.before.rows.length Cdkbr) 2 (d.keys.before.rows.map a5),a9 (.slice Adh d.halves.length Cdh) 13 (d.halves.map a8),a9 (.slice Adtc d.table.conns.length Cdtc) 25 (d.table.conns.map ar),ac d.table.conns,a9 (.slice Adtw d.table.waiting.length Cdtw) 3 (d.table.waiting.map a7)]⟩ <| kQ <| kCD 3 [1,2,6,7] [(6,.v (.agg (aC d.keys (.slice Adknr d.keys.now.rows.length Cdknr) (.slice Adkbr d.keys.before.rows.length Cdkbr)).toArray)),(7,aI left)] 18 [.agg (aC d.keys (.slice Adknr d.keys.now.rows.length Cdknr) (.slice Adkbr d.keys.before.rows.length Cdkbr)).toArray,iI left] (some 8) rfl (xc_e (α := Int) (F := fun y => iI y) (p := fun r => r = -1 ∨ (0 ≤ r ∧ r ≤ left ∧ (d.keys.now.rows.length : Int) ≤ left ∧ (∀ p ∈ d.keys.now.rows,(p.input.size : Int) ≤ left) ∧ (d.keys.before.rows.length : Int) ≤ left ∧ (∀ p ∈ d.keys.before.rows,(p.input.size : Int) ≤ left))) fun ww hf => yszKeys_c d.keys (.slice Adknr d.keys.now.rows.length Cdknr) (.slice Adkbr d.keys.before.rows.length Cdkbr) left ww (hf _ m0) (hf _ m1) (by omega) (by omega) hm_d_keys_now_rowsV hm_d_keys_before_rowsV) ?_
 rintro ⟨r1,hr1⟩
 refine bk [1,2] [(1,aI r1)] <| kS <| kQ <| bk [1,2,10] [(10,aB (decide (r1 < 0)))] ?_
 refine kC (decide (r1 < 0)) (fun h2 => ?_) (fun h2 => ?_)
 have h2p := of_decide_eq_true h2
 refine kQ <| aS [4] [(4,aI (-1))] <| kR ?_
 exact ⟨[iI (-1)],by kernel_rfl,fun w' hb hf => ⟨_,rfl,.inl rfl,hb⟩⟩
 have h2p := of_decide_eq_false h2
 rcases hr1 with hr1 | ⟨hr1a,hr1b,hr1n,hr1m,hr1o,hr1p⟩
 · omega
 refine kK <| kQ <| kCD 3 [1,2,12,13] [(12,.v (.slice Adh d.halves.length Cdh)),(13,aI r1)] 19 [.slice Adh d.halves.length Cdh,iI r1] (some 14) rfl (xc_s fun ww hf => szHalfS_c (.slice Adh d.halves.length Cdh) d.halves r1 ww (hf _ m2) (by omega) (by omega)) ?_
 intro _
 refine bk [1,2] [(1,aI (if (r1 : Int) < d.halves.length then -1 else (r1 : Int) - d.halves.length))] <| kS <| kQ <| bk [1,2,16] [(16,aB (decide ((if (r1 : Int) < d.halves.length then -1 else (r1 : Int) - d.halves.length) < 0)))] ?_
 refine kC (decide ((if (r1 : Int) < d.halves.length then -1 else (r1 : Int) - d.halves.length) < 0)) (fun h3 => ?_) (fun h3 => ?_)
 have h3p := of_decide_eq_true h3
 refine kQ <| aS [4] [(4,aI (-1))] <| kR ?_
 exact ⟨[iI (-1)],by kernel_rfl,fun w' hb hf => ⟨_,rfl,.inl rfl,hb⟩⟩
 have h3p := of_decide_eq_false h3
 have hsz_d_halves : d.halves.length ≤ 1048576 := by by_cases hh : (r1 : Int) < (d.halves.length : Int) <;> simp [hh] at h3; omega
 refine kK <| kQ <| kCD 3 [1,18,19] [(18,.v (.agg (bh d.table (.slice Adtc d.table.conns.length Cdtc) (.slice Adtw d.table.waiting.length Cdtw)).toArray)),(19,aI (if (r1 : Int) < d.halves.length then -1 else (r1 : Int) - d.halves.length))] 20 [.agg (bh d.table (.slice Adtc d.table.conns.length Cdtc) (.slice Adtw d.table.waiting.length Cdtw)).toArray,iI (if (r1 : Int) < d.halves.length then -1 else (r1 : Int) - d.halves.length)] (some 20) rfl (xc_e (α := Int) (F := fun y => iI y) (p := fun r => r = -1 ∨ (0 ≤ r ∧ r ≤ (if (r1 : Int) < d.halves.length then -1 else (r1 : Int) - d.halves.length) ∧ (d.table.conns.length : Int) ≤ (if (r1 : Int) < d.halves.length then -1 else (r1 : Int) - d.halves.length) ∧ (∀ x ∈ d.table.conns,ConFit (if (r1 : Int) < d.halves.length then -1 else (r1 : Int) - d.halves.length) x.1) ∧ (d.table.waiting.length : Int) ≤ (if (r1 : Int) < d.halves.length then -1 else (r1 : Int) - d.halves.length))) fun ww hf => yszTable_c d.table.conns d.table.waiting (.slice Adtc d.table.conns.length Cdtc) (.slice Adtw d.table.waiting.length Cdtw) (if (r1 : Int) < d.halves.length then -1 else (r1 : Int) - d.halves.length) ww (hf _ m3) (hf _ m4) (hf _ m5) (by omega) (by omega) hm_d_table_connsV) ?_
 rintro ⟨r4,hr4⟩
 refine aS [1] [(1,aI r4)] <| kS <| kQ <| bk [1,22] [(22,aB (decide (r4 < 0)))] ?_
 refine kC (decide (r4 < 0)) (fun h5 => ?_) (fun h5 => ?_)
 have h5p := of_decide_eq_true h5
 refine kQ <| aS [4] [(4,aI (-1))] <| kR ?_
 exact ⟨[iI (-1)],by kernel_rfl,fun w' hb hf => ⟨_,rfl,.inl rfl,hb⟩⟩
 have h5p := of_decide_eq_false h5
 rcases hr4 with hr4 | ⟨hr4a,hr4b,hr4n,hr4c,hr4w⟩
 · omega
 have hfit_d_table_connsV : ∀ x ∈ d.table.conns,bZ x.1 := fun x hx => (hr4c x hx).fit (by omega)
 have hln_d_table_connsV : d.table.conns.length ≤ 1048576 := by omega
 have hlw_d_table_connsV : d.table.waiting.length ≤ 1048576 := by omega
 refine kK <| kQ <| aS [4] [(4,aI r4)] <| kR ?_
 exact ⟨[iI r4],by kernel_rfl,fun w' hb hf => ⟨_,rfl,.inr ⟨by omega,by omega,by omega,fun p hp => by have := hr1m p hp; omega,by omega,fun p hp => by have := hr1p p hp; omega,by omega,hfit_d_table_connsV,hln_d_table_connsV,hlw_d_table_connsV⟩,hb⟩⟩
theorem ytoMac_c (m : Mac) (m_rowsV : Value) (w : World) (hl_m_rowsV : Sl w m_rowsV 2 (m.rows.map a5)) (hrn : m.rows.length ≤ 1048576) (B : Nat) (hB : B ≤ w.heap.size) : Calls Try.prog 61 #[.agg (aW m m_rowsV).toArray] w fun e w' => XRs w w' e (α := Option Addr × Nat) (fun y => .agg (aW m (.slice y.1 m.rows.length y.2)).toArray) (fun y => [aH B (.slice y.1 m.rows.length y.2) 2 (m.rows.map a5)]) := by
 obtain ⟨Amr,Cmr,hvmr⟩ := hl_m_rowsV.form
 rw [List.length_map] at hvmr; subst hvmr
 have hnmr := hl_m_rowsV.len; rw [List.length_map] at hnmr
 have hqmr := Sl.capLe hl_m_rowsV
 refine x_callsA (args := [.agg (aW m (.slice Amr m.rows.length Cmr)).toArray]) (fn := Try.f61) [a9 (.slice Amr m.rows.length Cmr) 2 (m.rows.map a5)] Try.func61 rfl Try.ntmps61 rfl (by simp only [List.mem_cons,List.not_mem_nil,or_false,forall_eq_or_imp,forall_eq]; exact ⟨rfl,hl_m_rowsV⟩) ?_
 refine kQ <| ct [1,2] ⟨[(1,.p 0 0),(2,.p 1 0)],[⟨25,aW m (.slice Amr m.rows.length Cmr)⟩,⟨41,[.bool false,.int .u64 0,.int .u64 0,.slice none 0 0]⟩],[],[a9 (.slice Amr m.rows.length Cmr) 2 (m.rows.map a5)]⟩ <| kQ <| ct [1,2,3] ⟨[(1,.p 0 0),(2,.p 1 0),(3,.p 2 0)],[⟨25,aW m (.slice Amr m.rows.length Cmr)⟩,⟨41,[.bool false,.int .u64 0,.int .u64 0,.slice none 0 0]⟩,⟨41,[.bool false,.int .u64 0,.int .u64 0,.slice none 0 0]⟩],[],[a9 (.slice Amr m.rows.length Cmr) 2 (m.rows.map a5)]⟩ ?_
 refine kQ <| ct [1,2,3] ⟨[(1,.p 0 0),(2,.p 1 0),(3,.p 2 0)],[⟨25,aW m (.slice Amr m.rows.length Cmr)⟩,⟨41,[.bool false,.int .u64 0,.int .u64 0,.slice none 0 0]⟩,⟨41,[.bool m.use,.int .u64 0,.int .u64 0,.slice none 0 0]⟩],[],[a9 (.slice Amr m.rows.length Cmr) 2 (m.rows.map a5)]⟩ <| kQ <| ct [1,2,3] ⟨[(1,.p 0 0),(2,.p 1 0),(3,.p 2 0)],[⟨25,aW m (.slice Amr m.rows.length Cmr)⟩,⟨41,[.bool false,.int .u64 0,.int .u64 0,.slice none 0 0]⟩,⟨41,[.bool m.use,.int .u64 m.k,.int .u64 0,.slice none 0 0]⟩],[],[a9 (.slice Amr m.rows.length Cmr) 2 (m.rows.map a5)]⟩ ?_
 refine kQ <| ct [1,2,3] ⟨[(1,.p 0 0),(2,.p 1 0),(3,.p 2 0)],[⟨25,aW m (.slice Amr m.rows.length Cmr)⟩,⟨41,[.bool false,.int .u64 0,.int .u64 0,.slice none 0 0]⟩,⟨41,[.bool m.use,.int .u64 m.k,.int .u64 m.l,.slice none 0 0]⟩],[],[a9 (.slice Amr m.rows.length Cmr) 2 (m.rows.map a5)]⟩ <| kQ <| kCS 2 [2,3,14] [(2,.p 1 0),(3,.p 2 0),(14,.v (.slice Amr m.rows.length Cmr))] 100 [.slice Amr m.rows.length Cmr] (some 15) rfl (xc_on (m := m.rows.length) (F := fun v' => v') (List.length_map ..) fun ww hf => toMacRowS_c (.slice Amr m.rows.length Cmr) m.rows ww (hf _ m0) (by omega)) ?_
 rintro ⟨v1a,v1c⟩
 refine ct [2,3] ⟨[(2,.p 1 0),(3,.p 2 0)],[⟨25,aW m (.slice Amr m.rows.length Cmr)⟩,⟨41,[.bool false,.int .u64 0,.int .u64 0,.slice none 0 0]⟩,⟨41,aW m (.slice v1a m.rows.length v1c)⟩],[],[aH w.heap.size (.slice v1a m.rows.length v1c) 2 (m.rows.map a5),a9 (.slice Amr m.rows.length Cmr) 2 (m.rows.map a5)]⟩ <| kQ <| ct [2] ⟨[(2,.p 1 0)],[⟨25,aW m (.slice Amr m.rows.length Cmr)⟩,⟨41,aW m (.slice v1a m.rows.length v1c)⟩,⟨41,aW m (.slice v1a m.rows.length v1c)⟩],[],[aH w.heap.size (.slice v1a m.rows.length v1c) 2 (m.rows.map a5),a9 (.slice Amr m.rows.length Cmr) 2 (m.rows.map a5)]⟩ <| kR ?_
 exact ⟨[.agg (aW m (.slice v1a m.rows.length v1c)).toArray],by kernel_rfl,fun w' hb hf ha => by exact xo1 ((v1a,v1c)) rfl rfl (pO (hf _ m0) hB) hb⟩
theorem ytoKeys_c (k : Kys) (k_now_rowsV : Value) (k_before_rowsV : Value) (w : World) (hl_k_now_rowsV : Sl w k_now_rowsV 2 (k.now.rows.map a5)) (hl_k_before_rowsV : Sl w k_before_rowsV 2 (k.before.rows.map a5)) (hrn : k.now.rows.length ≤ 1048576) (hrb : k.before.rows.length ≤ 1048576) (B : Nat) (hB : B ≤ w.heap.size) : Calls Try.prog 24 #[.agg (aC k k_now_rowsV k_before_rowsV).toArray] w fun e w' => XRs w w' e (α := (Option Addr × Nat) × (Option Addr × Nat)) (fun y => .agg (aC k (.slice y.1.1 k.now.rows.length y.1.2) (.slice y.2.1 k.before.rows.length y.2.2)).toArray) (fun y => [aH B (.slice y.1.1 k.now.rows.length y.1.2) 2 (k.now.rows.map a5), aH B (.slice y.2.1 k.before.rows.length y.2.2) 2 (k.before.rows.map a5)]) := by
 obtain ⟨Aknr,Cknr,hvknr⟩ := hl_k_now_rowsV.form
 rw [List.length_map] at hvknr; subst hvknr
 have hnknr := hl_k_now_rowsV.len; rw [List.length_map] at hnknr
 have hqknr := Sl.capLe hl_k_now_rowsV
 obtain ⟨Akbr,Ckbr,hvkbr⟩ := hl_k_before_rowsV.form
 rw [List.length_map] at hvkbr; subst hvkbr
 have hnkbr := hl_k_before_rowsV.len; rw [List.length_map] at hnkbr
 have hqkbr := Sl.capLe hl_k_before_rowsV
 refine x_callsA (args := [.agg (aC k (.slice Aknr k.now.rows.length Cknr) (.slice Akbr k.before.rows.length Ckbr)).toArray]) (fn := Try.f24) [a9 (.slice Aknr k.now.rows.length Cknr) 2 (k.now.rows.map a5),a9 (.slice Akbr k.before.rows.length Ckbr) 2 (k.before.rows.map a5)] Try.func24 rfl Try.ntmps24 rfl (by simp only [List.mem_cons,List.not_mem_nil,or_false,forall_eq_or_imp,forall_eq]; exact ⟨⟨rfl,hl_k_now_rowsV⟩,⟨rfl,hl_k_before_rowsV⟩⟩) ?_
 refine kQ <| ct [1,2] ⟨[(1,.p 0 0),(2,.p 1 0)],[⟨27,aC k (.slice Aknr k.now.rows.length Cknr) (.slice Akbr k.before.rows.length Ckbr)⟩,⟨43,[iI 0,.bool false,.int .u64 0,.int .u64 0,.slice none 0 0,.bool false,.int .u64 0,.int .u64 0,.slice none 0 0,.bool false]⟩],[],[a9 (.slice Aknr k.now.rows.length Cknr) 2 (k.now.rows.map a5),a9 (.slice Akbr k.before.rows.length Ckbr) 2 (k.before.rows.map a5)]⟩ <| kQ <| ct [1,2,3] ⟨[(1,.p 0 0),(2,.p 1 0),(3,.p 2 0)],[⟨27,aC k (.slice Aknr k.now.rows.length Cknr) (.slice Akbr k.before.rows.length Ckbr)⟩,⟨43,[iI 0,.bool false,.int .u64 0,.int .u64 0,.slice none 0 0,.bool false,.int .u64 0,.int .u64 0,.slice none 0 0,.bool false]⟩,⟨43,[iI 0,.bool false,.int .u64 0,.int .u64 0,.slice none 0 0,.bool false,.int .u64 0,.int .u64 0,.slice none 0 0,.bool false]⟩],[],[a9 (.slice Aknr k.now.rows.length Cknr) 2 (k.now.rows.map a5),a9 (.slice Akbr k.before.rows.length Ckbr) 2 (k.before.rows.map a5)]⟩ ?_
 refine kQ <| ct [1,2,3] ⟨[(1,.p 0 0),(2,.p 1 0),(3,.p 2 0)],[⟨27,aC k (.slice Aknr k.now.rows.length Cknr) (.slice Akbr k.before.rows.length Ckbr)⟩,⟨43,[iI 0,.bool false,.int .u64 0,.int .u64 0,.slice none 0 0,.bool false,.int .u64 0,.int .u64 0,.slice none 0 0,.bool false]⟩,⟨43,[iI k.epoch,.bool false,.int .u64 0,.int .u64 0,.slice none 0 0,.bool false,.int .u64 0,.int .u64 0,.slice none 0 0,.bool false]⟩],[],[a9 (.slice Aknr k.now.rows.length Cknr) 2 (k.now.rows.map a5),a9 (.slice Akbr k.before.rows.length Ckbr) 2 (k.before.rows.map a5)]⟩ <| kQ <| kCS 2 [1,2,3,8] [(1,.p 0 0),(2,.p 1 0),(3,.p 2 0),(8,.v (.agg (aW k.now (.slice Aknr k.now.rows.length Cknr)).toArray))] 61 [.agg (aW k.now (.slice Aknr k.now.rows.length Cknr)).toArray] (some 9) rfl (xc_r fun ww hw hf => ytoMac_c k.now (.slice Aknr k.now.rows.length Cknr) ww (hf _ m0) (by first | assumption | omega) w.heap.size hw) ?_
 rintro ⟨v1a,v1c⟩
 refine ct [1,2,3] ⟨[(1,.p 0 0),(2,.p 1 0),(3,.p 2 0)],[⟨27,aC k (.slice Aknr k.now.rows.length Cknr) (.slice Akbr k.before.rows.length Ckbr)⟩,⟨43,[iI 0,.bool false,.int .u64 0,.int .u64 0,.slice none 0 0,.bool false,.int .u64 0,.int .u64 0,.slice none 0 0,.bool false]⟩,⟨43,[iI k.epoch,.bool k.now.use,.int .u64 k.now.k,.int .u64 k.now.l,.slice v1a k.now.rows.length v1c,.bool false,.int .u64 0,.int .u64 0,.slice none 0 0,.bool false]⟩],[],[aH w.heap.size (.slice v1a k.now.rows.length v1c) 2 (k.now.rows.map a5),a9 (.slice Aknr k.now.rows.length Cknr) 2 (k.now.rows.map a5),a9 (.slice Akbr k.before.rows.length Ckbr) 2 (k.before.rows.map a5)]⟩ <| kQ <| kCS 2 [1,2,3,12] [(1,.p 0 0),(2,.p 1 0),(3,.p 2 0),(12,.v (.agg (aW k.before (.slice Akbr k.before.rows.length Ckbr)).toArray))] 61 [.agg (aW k.before (.slice Akbr k.before.rows.length Ckbr)).toArray] (some 13) rfl (xc_r fun ww hw hf => ytoMac_c k.before (.slice Akbr k.before.rows.length Ckbr) ww (hf _ m2) (by first | assumption | omega) w.heap.size hw) ?_
 rintro ⟨v2a,v2c⟩
 refine ct [1,2,3] ⟨[(1,.p 0 0),(2,.p 1 0),(3,.p 2 0)],[⟨27,aC k (.slice Aknr k.now.rows.length Cknr) (.slice Akbr k.before.rows.length Ckbr)⟩,⟨43,[iI 0,.bool false,.int .u64 0,.int .u64 0,.slice none 0 0,.bool false,.int .u64 0,.int .u64 0,.slice none 0 0,.bool false]⟩,⟨43,aC { k with two := false } (.slice v1a k.now.rows.length v1c) (.slice v2a k.before.rows.length v2c)⟩],[],[aH w.heap.size (.slice v2a k.before.rows.length v2c) 2 (k.before.rows.map a5),aH w.heap.size (.slice v1a k.now.rows.length v1c) 2 (k.now.rows.map a5),a9 (.slice Aknr k.now.rows.length Cknr) 2 (k.now.rows.map a5),a9 (.slice Akbr k.before.rows.length Ckbr) 2 (k.before.rows.map a5)]⟩ <| kQ <| ct [2,3] ⟨[(2,.p 1 0),(3,.p 2 0)],[⟨27,aC k (.slice Aknr k.now.rows.length Cknr) (.slice Akbr k.before.rows.length Ckbr)⟩,⟨43,[iI 0,.bool false,.int .u64 0,.int .u64 0,.slice none 0 0,.bool false,.int .u64 0,.int .u64 0,.slice none 0 0,.bool false]⟩,⟨43,aC k (.slice v1a k.now.rows.length v1c) (.slice v2a k.before.rows.length v2c)⟩],[],[aH w.heap.size (.slice v2a k.before.rows.length v2c) 2 (k.before.rows.map a5),aH w.heap.size (.slice v1a k.now.rows.length v1c) 2 (k.now.rows.map a5),a9 (.slice Aknr k.now.rows.length Cknr) 2 (k.now.rows.map a5),a9 (.slice Akbr k.before.rows.length Ckbr) 2 (k.before.rows.map a5)]⟩ <| kQ <| ct [2] ⟨[(2,.p 1 0)],[⟨27,aC k (.slice Aknr k.now.rows.length Cknr) (.slice Akbr k.before.rows.length Ckbr)⟩,⟨43,aC k (.slice v1a k.now.rows.length v1c) (.slice v2a k.before.rows.length v2c)⟩,⟨43,aC k (.slice v1a k.now.rows.length v1c) (.slice v2a k.before.rows.length v2c)⟩],[],[aH w.heap.size (.slice v2a k.before.rows.length v2c) 2 (k.before.rows.map a5),aH w.heap.size (.slice v1a k.now.rows.length v1c) 2 (k.now.rows.map a5),a9 (.slice Aknr k.now.rows.length Cknr) 2 (k.now.rows.map a5),a9 (.slice Akbr k.before.rows.length Ckbr) 2 (k.before.rows.map a5)]⟩ ?_
 refine kR ?_
 exact ⟨[.agg (aC k (.slice v1a k.now.rows.length v1c) (.slice v2a k.before.rows.length v2c)).toArray],by kernel_rfl,fun w' hb hf ha => by exact xo2 ((v1a,v1c),(v2a,v2c)) rfl rfl (pO (hf _ m1) hB) (pO (hf _ m0) hB) (Apart.sub2 ha (i := 1) (j := 0) rfl rfl (by decide) rfl (fun b h => h) (fun b h => h)) hb⟩
inductive SubL : List Fact → List Fact → Prop
 | nil : SubL [] []
 | cons {f g : Fact} {l k : List Fact} : (∀ b,f.blk b → g.blk b) → SubL l k → SubL (f :: l) (g :: k)
theorem apart_subL {fs gs gs' : List Fact} (h : Apart fs) (m : List Nat) (hp : pickF fs m = some gs) (hm : nodupB m = true) (ho : ∀ g ∈ gs, g.own = true) (hb : SubL gs' gs) : Apart gs' := by
 have h0 := apart_iff.1 (h.pickN m hm hp)
 rw [apart_iff]
 clear hp h
 induction hb with
 | nil => exact List.Pairwise.nil
 | @cons g' g l' l hg hl ih =>
   obtain ⟨h1,h2⟩ := List.pairwise_cons.1 h0
   refine List.pairwise_cons.2 ⟨fun z hz => ?_,ih (fun x hx => ho x (List.mem_cons_of_mem _ hx)) h2⟩
   obtain ⟨z',hz',hzz⟩ : ∃ z' ∈ l,∀ b,z.blk b → z'.blk b := by
     clear h0 h1 h2 ih ho
     induction hl with
     | nil => cases hz
     | cons h1 h2 ih2 =>
       rcases List.mem_cons.1 hz with rfl | hz
       · exact ⟨_,List.mem_cons_self ..,h1⟩
       · obtain ⟨z',a,b⟩ := ih2 hz
         exact ⟨z',List.mem_cons_of_mem _ a,b⟩
   exact ⟨fun _ b hb hb' => (h1 z' hz').1 (ho g (List.mem_cons_self ..)) b (hg b hb) (hzz b hb'),fun _ b hb hb' => (h1 z' hz').2 (ho z' (List.mem_cons_of_mem _ hz')) b (hzz b hb) (hg b hb')⟩
theorem cd (d : Dor) (d_keys_now_rowsV : Value) (d_keys_before_rowsV : Value) (d_halvesV : Value) (d_table_connsV : Value) (d_table_waitingV : Value) (w : World) (hl_d_keys_now_rowsV : Sl w d_keys_now_rowsV 2 (d.keys.now.rows.map a5)) (hl_d_keys_before_rowsV : Sl w d_keys_before_rowsV 2 (d.keys.before.rows.map a5)) (hl_d_halvesV : Sl w d_halvesV 13 (d.halves.map a8)) (hl_d_table_connsV : Sl w d_table_connsV 25 (d.table.conns.map ar)) (hh_d_table_connsV : ∀ x ∈ d.table.conns, Sl w x.2 2 (x.1.r.held.map pC)) (hl_d_table_waitingV : Sl w d_table_waitingV 3 (d.table.waiting.map a7)) (hrn : d.keys.now.rows.length ≤ 1048576) (hrb : d.keys.before.rows.length ≤ 1048576) (hhl : d.halves.length ≤ 1048576) (hfit : ∀ x ∈ d.table.conns, bZ x.1) (hln : d.table.conns.length ≤ 1048576) (hlw : d.table.waiting.length ≤ 1048576) (B : Nat) (hB : B ≤ w.heap.size) : Calls Try.prog 8 #[.agg (aZ d d_keys_now_rowsV d_keys_before_rowsV d_halvesV d_table_connsV d_table_waitingV).toArray] w fun e w' => XRs w w' e (α := {cs : List CV // pl cs = pl d.table.conns} × (Option Addr × Nat) × (Option Addr × Nat) × (Option Addr × Nat) × (Option Addr × Nat) × (Option Addr × Nat)) (fun y => .agg (aZ { d with table := { d.table with conns := y.1.1 } } (.slice y.2.1.1 d.keys.now.rows.length y.2.1.2) (.slice y.2.2.1.1 d.keys.before.rows.length y.2.2.1.2) (.slice y.2.2.2.1.1 d.halves.length y.2.2.2.1.2) (.slice y.2.2.2.2.1.1 y.1.1.length y.2.2.2.2.1.2) (.slice y.2.2.2.2.2.1 d.table.waiting.length y.2.2.2.2.2.2)).toArray) (fun y => [aH B (.slice y.2.1.1 d.keys.now.rows.length y.2.1.2) 2 (d.keys.now.rows.map a5), aH B (.slice y.2.2.1.1 d.keys.before.rows.length y.2.2.1.2) 2 (d.keys.before.rows.map a5), aH B (.slice y.2.2.2.1.1 d.halves.length y.2.2.2.1.2) 13 (d.halves.map a8), ck B 108 25 (.slice y.2.2.2.2.1.1 y.1.1.length y.2.2.2.2.1.2) (y.1.1.map ar), aD B y.1.1, aH B (.slice y.2.2.2.2.2.1 d.table.waiting.length y.2.2.2.2.2.2) 3 (d.table.waiting.map a7)]) := by
 obtain ⟨Adknr,Cdknr,hvdknr⟩ := hl_d_keys_now_rowsV.form
 rw [List.length_map] at hvdknr; subst hvdknr
 have hndknr := hl_d_keys_now_rowsV.len; rw [List.length_map] at hndknr
 have hqdknr := Sl.capLe hl_d_keys_now_rowsV
 obtain ⟨Adkbr,Cdkbr,hvdkbr⟩ := hl_d_keys_before_rowsV.form
 rw [List.length_map] at hvdkbr; subst hvdkbr
 have hndkbr := hl_d_keys_before_rowsV.len; rw [List.length_map] at hndkbr
 have hqdkbr := Sl.capLe hl_d_keys_before_rowsV
 obtain ⟨Adh,Cdh,hvdh⟩ := hl_d_halvesV.form
 rw [List.length_map] at hvdh; subst hvdh
 have hndh := hl_d_halvesV.len; rw [List.length_map] at hndh
 have hqdh := Sl.capLe hl_d_halvesV
 obtain ⟨Adtc,Cdtc,hvdtc⟩ := hl_d_table_connsV.form
 rw [List.length_map] at hvdtc; subst hvdtc
 have hndtc := hl_d_table_connsV.len; rw [List.length_map] at hndtc
 have hqdtc := Sl.capLe hl_d_table_connsV
 obtain ⟨Adtw,Cdtw,hvdtw⟩ := hl_d_table_waitingV.form
 rw [List.length_map] at hvdtw; subst hvdtw
 have hndtw := hl_d_table_waitingV.len; rw [List.length_map] at hndtw
 have hqdtw := Sl.capLe hl_d_table_waitingV
 refine x_callsA (args := [.agg (aZ d (.slice Adknr d.keys.now.rows.length Cdknr) (.slice Adkbr d.keys.before.rows.length Cdkbr) (.slice Adh d.halves.length Cdh) (.slice Adtc d.table.conns.length Cdtc) (.slice Adtw d.table.waiting.length Cdtw)).toArray]) (fn := Try.f8) [a9 (.slice Adknr d.keys.now.rows.length Cdknr) 2 (d.keys.now.rows.map a5),a9 (.slice Adkbr d.keys.before.rows.length Cdkbr) 2 (d.keys.before.rows.map a5),a9 (.slice Adh d.halves.length Cdh) 13 (d.halves.map a8),a9 (.slice Adtc d.table.conns.length Cdtc) 25 (d.table.conns.map ar),ac d.table.conns,a9 (.slice Adtw d.table.waiting.length Cdtw) 3 (d.table.waiting.map a7)] Try.func8 rfl Try.ntmps8 rfl (by simp only [List.mem_cons,List.not_mem_nil,or_false,forall_eq_or_imp,forall_eq]; exact ⟨⟨rfl,hl_d_keys_now_rowsV⟩,⟨rfl,hl_d_keys_before_rowsV⟩,⟨rfl,hl_d_halvesV⟩,⟨rfl,hl_d_table_connsV⟩,⟨rfl,hh_d_table_connsV⟩,⟨rfl,hl_d_table_waitingV⟩⟩) ?_
 refine kQ <| ct [1,2] ⟨[(1,.p 0 0),(2,.p 1 0)],[⟨36,aZ d (.slice Adknr d.keys.now.rows.length Cdknr) (.slice Adkbr d.keys.before.rows.length Cdkbr) (.slice Adh d.halves.length Cdh) (.slice Adtc d.table.conns.length Cdtc) (.slice Adtw d.table.waiting.length Cdtw)⟩,⟨51,[iI 0,iI 0,iI 0,.bool false,.int .u64 0,.int .u64 0,.slice none 0 0,.bool false,.int .u64 0,.int .u64 0,.slice none 0 0,.bool false,iI 0,iI 0,iI 0,iI 0,.slice none 0 0,.slice none 0 0,.slice none 0 0,iI 0]⟩],[],[a9 (.slice Adknr d.keys.now.rows.length Cdknr) 2 (d.keys.now.rows.map a5),a9 (.slice Adkbr d.keys.before.rows.length Cdkbr) 2 (d.keys.before.rows.map a5),a9 (.slice Adh d.halves.length Cdh) 13 (d.halves.map a8),a9 (.slice Adtc d.table.conns.length Cdtc) 25 (d.table.conns.map ar),ac d.table.conns,a9 (.slice Adtw d.table.waiting.length Cdtw) 3 (d.table.waiting.map a7)]⟩ <| kQ <| kEA [1,2,3] [(3,.p 2 0)] [⟨51,[iI 0,iI 0,iI 0,.bool false,.int .u64 0,.int .u64 0,.slice none 0 0,.bool false,.int .u64 0,.int .u64 0,.slice none 0 0,.bool false,iI 0,iI 0,iI 0,iI 0,.slice none 0 0,.slice none 0 0,.slice none 0 0,iI 0]⟩] ?_
 refine kQ <| kEU [1,2,3] [] 2 ⟨51,[iI d.port,iI 0,iI 0,.bool false,.int .u64 0,.int .u64 0,.slice none 0 0,.bool false,.int .u64 0,.int .u64 0,.slice none 0 0,.bool false,iI 0,iI 0,iI 0,iI 0,.slice none 0 0,.slice none 0 0,.slice none 0 0,iI 0]⟩ <| kQ <| kEU [1,2,3] [] 2 ⟨51,[iI d.port,iI d.clock,iI 0,.bool false,.int .u64 0,.int .u64 0,.slice none 0 0,.bool false,.int .u64 0,.int .u64 0,.slice none 0 0,.bool false,iI 0,iI 0,iI 0,iI 0,.slice none 0 0,.slice none 0 0,.slice none 0 0,iI 0]⟩ ?_
 refine kQ <| kCD 2 [1,2,3,11] [(11,.v (.agg (aC d.keys (.slice Adknr d.keys.now.rows.length Cdknr) (.slice Adkbr d.keys.before.rows.length Cdkbr)).toArray))] 24 [.agg (aC d.keys (.slice Adknr d.keys.now.rows.length Cdknr) (.slice Adkbr d.keys.before.rows.length Cdkbr)).toArray] (some 12) rfl (xc_r fun ww hw hf => ytoKeys_c d.keys (.slice Adknr d.keys.now.rows.length Cdknr) (.slice Adkbr d.keys.before.rows.length Cdkbr) ww (hf _ m0) (hf _ m1) (by first | assumption | omega) (by first | assumption | omega) w.heap.size hw) ?_
 rintro ⟨⟨v1a,v1c⟩,⟨v2a,v2c⟩⟩
 refine kEU [1,2,3] [] 2 ⟨51,[iI d.port,iI d.clock,iI d.keys.epoch,.bool d.keys.now.use,.int .u64 d.keys.now.k,.int .u64 d.keys.now.l,.slice v1a d.keys.now.rows.length v1c,.bool d.keys.before.use,.int .u64 d.keys.before.k,.int .u64 d.keys.before.l,.slice v2a d.keys.before.rows.length v2c,.bool d.keys.two,iI 0,iI 0,iI 0,iI 0,.slice none 0 0,.slice none 0 0,.slice none 0 0,iI 0]⟩ <| kQ <| kCD 2 [1,2,3,15] [(15,.v (.agg (bJ d.lim).toArray))] 25 [.agg (bJ d.lim).toArray] (some 16) rfl (bL fun ww hf => ytoLimits_c d.lim ww ) ?_
 intro _
 refine kEU [1,2,3] [] 2 ⟨51,aZ { d with halves := [],table := ⟨[],[]⟩,chal := 0 } (.slice v1a d.keys.now.rows.length v1c) (.slice v2a d.keys.before.rows.length v2c) (.slice none 0 0) (.slice none 0 0) (.slice none 0 0)⟩ <| kQ <| kCD 2 [1,2,3,19] [(19,.v (.slice Adh d.halves.length Cdh))] 26 [.slice Adh d.halves.length Cdh] (some 20) rfl (xc_on (m := d.halves.length) (F := fun v' => v') (List.length_map ..) fun ww hf => toHalfS_c (.slice Adh d.halves.length Cdh) d.halves ww (hf _ m4) (by omega)) ?_
 rintro ⟨v3a,v3c⟩
 refine kEU [1,2,3] [] 2 ⟨51,aZ { d with table := ⟨[],[]⟩,chal := 0 } (.slice v1a d.keys.now.rows.length v1c) (.slice v2a d.keys.before.rows.length v2c) (.slice v3a d.halves.length v3c) (.slice none 0 0) (.slice none 0 0)⟩ <| kQ <| kCD 2 [1,2,3,23] [(23,.v (.agg (bh d.table (.slice Adtc d.table.conns.length Cdtc) (.slice Adtw d.table.waiting.length Cdtw)).toArray))] 27 [.agg (bh d.table (.slice Adtc d.table.conns.length Cdtc) (.slice Adtw d.table.waiting.length Cdtw)).toArray] (some 24) rfl (xc_r fun ww hw hf => ytoTable_c d.table (.slice Adtc d.table.conns.length Cdtc) (.slice Adtw d.table.waiting.length Cdtw) ww (hf _ m6) (hf _ m7) (hf (a9 (.slice Adtw d.table.waiting.length Cdtw) 3 (d.table.waiting.map a7)) (by simp)) (by assumption) (by omega) (by omega) w.heap.size hw) ?_
 rintro ⟨⟨t4l,ht4l⟩,⟨t4a,t4c⟩,⟨t4d,t4e⟩⟩
 dsimp only
 have hfit_t4l : ∀ x ∈ t4l,bZ x.1 := cr ht4l (by assumption)
 have hlen_t4l := pl_len ht4l
 refine ct [1,2,3] ⟨[(1,.p 0 0),(2,.p 1 0),(3,.p 2 0)],[⟨36,aZ d (.slice Adknr d.keys.now.rows.length Cdknr) (.slice Adkbr d.keys.before.rows.length Cdkbr) (.slice Adh d.halves.length Cdh) (.slice Adtc d.table.conns.length Cdtc) (.slice Adtw d.table.waiting.length Cdtw)⟩,⟨51,[iI 0,iI 0,iI 0,.bool false,.int .u64 0,.int .u64 0,.slice none 0 0,.bool false,.int .u64 0,.int .u64 0,.slice none 0 0,.bool false,iI 0,iI 0,iI 0,iI 0,.slice none 0 0,.slice none 0 0,.slice none 0 0,iI 0]⟩,⟨51,aZ { d with table := { d.table with conns := t4l },chal := 0 } (.slice v1a d.keys.now.rows.length v1c) (.slice v2a d.keys.before.rows.length v2c) (.slice v3a d.halves.length v3c) (.slice t4a t4l.length t4c) (.slice t4d d.table.waiting.length t4e)⟩],[],[ck w.heap.size 108 25 (.slice t4a t4l.length t4c) (t4l.map ar),aD w.heap.size t4l,aH w.heap.size (.slice t4d d.table.waiting.length t4e) 3 (d.table.waiting.map a7),aH w.heap.size (.slice v3a d.halves.length v3c) 13 (d.halves.map a8),aH w.heap.size (.slice v1a d.keys.now.rows.length v1c) 2 (d.keys.now.rows.map a5),aH w.heap.size (.slice v2a d.keys.before.rows.length v2c) 2 (d.keys.before.rows.map a5),a9 (.slice Adknr d.keys.now.rows.length Cdknr) 2 (d.keys.now.rows.map a5),a9 (.slice Adkbr d.keys.before.rows.length Cdkbr) 2 (d.keys.before.rows.map a5),a9 (.slice Adh d.halves.length Cdh) 13 (d.halves.map a8),a9 (.slice Adtc d.table.conns.length Cdtc) 25 (d.table.conns.map ar),ac d.table.conns,a9 (.slice Adtw d.table.waiting.length Cdtw) 3 (d.table.waiting.map a7)]⟩ <| kQ <| kEU [2,3] [] 2 ⟨51,aZ { d with table := { d.table with conns := t4l } } (.slice v1a d.keys.now.rows.length v1c) (.slice v2a d.keys.before.rows.length v2c) (.slice v3a d.halves.length v3c) (.slice t4a t4l.length t4c) (.slice t4d d.table.waiting.length t4e)⟩ <| kQ <| kEU [2] [(2,.p 1 0)] 1 ⟨51,aZ { d with table := { d.table with conns := t4l } } (.slice v1a d.keys.now.rows.length v1c) (.slice v2a d.keys.before.rows.length v2c) (.slice v3a d.halves.length v3c) (.slice t4a t4l.length t4c) (.slice t4d d.table.waiting.length t4e)⟩ ?_
 refine kR ?_
 exact ⟨[.agg (aZ { d with table := { d.table with conns := t4l } } (.slice v1a d.keys.now.rows.length v1c) (.slice v2a d.keys.before.rows.length v2c) (.slice v3a d.halves.length v3c) (.slice t4a t4l.length t4c) (.slice t4d d.table.waiting.length t4e)).toArray],by kernel_rfl,fun w' hb hf ha => ⟨(⟨t4l,ht4l⟩,(v1a,v1c),(v2a,v2c),(v3a,v3c),(t4a,t4c),(t4d,t4e)),rfl,(by simp only [List.mem_cons,List.not_mem_nil,or_false,forall_eq_or_imp,forall_eq]; exact ⟨pO (hf _ m4) hB,pO (hf _ m5) hB,pO (hf _ m3) hB,pW (hf _ m0) hB,pH (hf _ m1) hB,pO (hf _ m2) hB⟩),apart_subL ha [4,5,3,0,1,2] rfl (by decide) (by simp only [List.mem_cons,List.not_mem_nil,or_false,forall_eq_or_imp,forall_eq]; exact ⟨rfl,rfl,rfl,rfl,rfl,rfl⟩) (.cons (fun b h => h) (.cons (fun b h => h) (.cons (fun b h => h) (.cons (fun b h => h) (.cons (fun b h => hownF_blk h) (.cons (fun b h => h) .nil)))))),hb⟩⟩
theorem yeqMac_c (m : Mac) (p_rowsV : Value) (q_rowsV : Value) (w : World) (hl_p_rowsV : Sl w p_rowsV 2 (m.rows.map a5)) (hl_q_rowsV : Sl w q_rowsV 2 (m.rows.map a5)) : Calls Try.prog 70 #[.agg #[.bool m.use, .int .u64 m.k, .int .u64 m.l, p_rowsV], .agg #[.bool m.use, .int .u64 m.k, .int .u64 m.l, q_rowsV]] w fun e w' => e = .returned (.bool true) ∧ Below w.heap.size w w' := by
 obtain ⟨Apr,Cpr,hvpr⟩ := hl_p_rowsV.form
 rw [List.length_map] at hvpr; subst hvpr
 have hnpr := hl_p_rowsV.len; rw [List.length_map] at hnpr
 have hqpr := Sl.capLe hl_p_rowsV
 obtain ⟨Aqr,Cqr,hvqr⟩ := hl_q_rowsV.form
 rw [List.length_map] at hvqr; subst hvqr
 have hnqr := hl_q_rowsV.len; rw [List.length_map] at hnqr
 have hqqr := Sl.capLe hl_q_rowsV
 refine ad (args := [.agg (aW m (.slice Apr m.rows.length Cpr)).toArray,.agg (aW m (.slice Aqr m.rows.length Cqr)).toArray]) (fn := Try.f70) [a9 (.slice Apr m.rows.length Cpr) 2 (m.rows.map a5),a9 (.slice Aqr m.rows.length Cqr) 2 (m.rows.map a5)] Try.func70 rfl Try.ntmps70 rfl (by simp only [List.mem_cons,List.not_mem_nil,or_false,forall_eq_or_imp,forall_eq]; exact ⟨⟨rfl,hl_p_rowsV⟩,⟨rfl,hl_q_rowsV⟩⟩) ?_
 refine kQ <| ct [2,3] ⟨[(2,.p 0 0),(3,.p 1 0)],[⟨41,aW m (.slice Apr m.rows.length Cpr)⟩,⟨41,aW m (.slice Aqr m.rows.length Cqr)⟩],[],[a9 (.slice Apr m.rows.length Cpr) 2 (m.rows.map a5),a9 (.slice Aqr m.rows.length Cqr) 2 (m.rows.map a5)]⟩ <| kS <| kQ <| bk [2,3,9] [(9,aB (!(m.use == m.use)))] ?_
 refine kC (!(m.use == m.use)) (fun h1 => ?_) (fun h1 => ?_)
 have h1n := not_t h1
 simp at h1n
 have h1n := not_f h1
 have h1np := eqT h1n
 refine kK <| kS <| kQ <| bk [2,3,14] [(14,aB (m.k != m.k))] ?_
 refine kC (m.k != m.k) (fun h2 => ?_) (fun h2 => ?_)
 simp at h2
 have h2p := neF h2
 refine kK <| kS <| kQ <| bk [2,3,19] [(19,aB (m.l != m.l))] ?_
 refine kC (m.l != m.l) (fun h3 => ?_) (fun h3 => ?_)
 simp at h3
 have h3p := neF h3
 refine kK <| kS <| kQ <| kCS 4 [21,23] [(21,.v (.slice Apr m.rows.length Cpr)),(23,.v (.slice Aqr m.rows.length Cqr))] 104 [.slice Apr m.rows.length Cpr,.slice Aqr m.rows.length Cqr] (some 24) rfl (bL fun ww hf => eqMacRowS_c (.slice Apr m.rows.length Cpr) (.slice Aqr m.rows.length Cqr) m.rows ww (hf _ m0) (hf _ m1)) ?_
 intro _
 refine aS [25] [(25,aB false)] <| kN <| kK <| kQ <| aS [4] [(4,aB true)] ?_
 refine kR ?_
 exact ⟨[.bool true],by kernel_rfl,fun w' hb hf => ⟨rfl,hb⟩⟩
theorem yeqKeys_c (m : Kys) (p_now_rowsV : Value) (p_before_rowsV : Value) (q_now_rowsV : Value) (q_before_rowsV : Value) (w : World) (hl_p_now_rowsV : Sl w p_now_rowsV 2 (m.now.rows.map a5)) (hl_p_before_rowsV : Sl w p_before_rowsV 2 (m.before.rows.map a5)) (hl_q_now_rowsV : Sl w q_now_rowsV 2 (m.now.rows.map a5)) (hl_q_before_rowsV : Sl w q_before_rowsV 2 (m.before.rows.map a5)) : Calls Try.prog 31 #[.agg #[iI m.epoch, .bool m.now.use, .int .u64 m.now.k, .int .u64 m.now.l, p_now_rowsV, .bool m.before.use, .int .u64 m.before.k, .int .u64 m.before.l, p_before_rowsV, .bool m.two], .agg #[iI m.epoch, .bool m.now.use, .int .u64 m.now.k, .int .u64 m.now.l, q_now_rowsV, .bool m.before.use, .int .u64 m.before.k, .int .u64 m.before.l, q_before_rowsV, .bool m.two]] w fun e w' => e = .returned (.bool true) ∧ Below w.heap.size w w' := by
 obtain ⟨Apnr,Cpnr,hvpnr⟩ := hl_p_now_rowsV.form
 rw [List.length_map] at hvpnr; subst hvpnr
 have hnpnr := hl_p_now_rowsV.len; rw [List.length_map] at hnpnr
 have hqpnr := Sl.capLe hl_p_now_rowsV
 obtain ⟨Apbr,Cpbr,hvpbr⟩ := hl_p_before_rowsV.form
 rw [List.length_map] at hvpbr; subst hvpbr
 have hnpbr := hl_p_before_rowsV.len; rw [List.length_map] at hnpbr
 have hqpbr := Sl.capLe hl_p_before_rowsV
 obtain ⟨Aqnr,Cqnr,hvqnr⟩ := hl_q_now_rowsV.form
 rw [List.length_map] at hvqnr; subst hvqnr
 have hnqnr := hl_q_now_rowsV.len; rw [List.length_map] at hnqnr
 have hqqnr := Sl.capLe hl_q_now_rowsV
 obtain ⟨Aqbr,Cqbr,hvqbr⟩ := hl_q_before_rowsV.form
 rw [List.length_map] at hvqbr; subst hvqbr
 have hnqbr := hl_q_before_rowsV.len; rw [List.length_map] at hnqbr
 have hqqbr := Sl.capLe hl_q_before_rowsV
 refine ad (args := [.agg (aC m (.slice Apnr m.now.rows.length Cpnr) (.slice Apbr m.before.rows.length Cpbr)).toArray,.agg (aC m (.slice Aqnr m.now.rows.length Cqnr) (.slice Aqbr m.before.rows.length Cqbr)).toArray]) (fn := Try.f31) [a9 (.slice Apnr m.now.rows.length Cpnr) 2 (m.now.rows.map a5),a9 (.slice Apbr m.before.rows.length Cpbr) 2 (m.before.rows.map a5),a9 (.slice Aqnr m.now.rows.length Cqnr) 2 (m.now.rows.map a5),a9 (.slice Aqbr m.before.rows.length Cqbr) 2 (m.before.rows.map a5)] Try.func31 rfl Try.ntmps31 rfl (by simp only [List.mem_cons,List.not_mem_nil,or_false,forall_eq_or_imp,forall_eq]; exact ⟨⟨rfl,hl_p_now_rowsV⟩,⟨rfl,hl_p_before_rowsV⟩,⟨rfl,hl_q_now_rowsV⟩,⟨rfl,hl_q_before_rowsV⟩⟩) ?_
 refine kQ <| ct [2,3] ⟨[(2,.p 0 0),(3,.p 1 0)],[⟨43,aC m (.slice Apnr m.now.rows.length Cpnr) (.slice Apbr m.before.rows.length Cpbr)⟩,⟨43,aC m (.slice Aqnr m.now.rows.length Cqnr) (.slice Aqbr m.before.rows.length Cqbr)⟩],[],[a9 (.slice Apnr m.now.rows.length Cpnr) 2 (m.now.rows.map a5),a9 (.slice Apbr m.before.rows.length Cpbr) 2 (m.before.rows.map a5),a9 (.slice Aqnr m.now.rows.length Cqnr) 2 (m.now.rows.map a5),a9 (.slice Aqbr m.before.rows.length Cqbr) 2 (m.before.rows.map a5)]⟩ <| kS <| kQ <| bk [2,3,9] [(9,aB (m.epoch != m.epoch))] ?_
 refine kC (m.epoch != m.epoch) (fun h1 => ?_) (fun h1 => ?_)
 simp at h1
 have h1p := neF h1
 refine kK <| kS <| kQ <| kCD 4 [2,3,11,13] [(11,.v (.agg (aW m.now (.slice Apnr m.now.rows.length Cpnr)).toArray)),(13,.v (.agg (aW m.now (.slice Aqnr m.now.rows.length Cqnr)).toArray))] 70 [.agg (aW m.now (.slice Apnr m.now.rows.length Cpnr)).toArray,.agg (aW m.now (.slice Aqnr m.now.rows.length Cqnr)).toArray] (some 14) rfl (bL fun ww hf => yeqMac_c m.now (.slice Apnr m.now.rows.length Cpnr) (.slice Aqnr m.now.rows.length Cqnr) ww (hf _ m0) (hf _ m2)) ?_
 intro _
 refine bk [2,3,15] [(15,aB false)] <| kN <| kK <| kS <| kQ <| kCD 4 [2,3,17,19] [(17,.v (.agg (aW m.before (.slice Apbr m.before.rows.length Cpbr)).toArray)),(19,.v (.agg (aW m.before (.slice Aqbr m.before.rows.length Cqbr)).toArray))] 70 [.agg (aW m.before (.slice Apbr m.before.rows.length Cpbr)).toArray,.agg (aW m.before (.slice Aqbr m.before.rows.length Cqbr)).toArray] (some 20) rfl (bL fun ww hf => yeqMac_c m.before (.slice Apbr m.before.rows.length Cpbr) (.slice Aqbr m.before.rows.length Cqbr) ww (hf _ m1) (hf _ m3)) ?_
 intro _
 refine bk [2,3,21] [(21,aB false)] <| kN <| kK <| kS <| kQ <| aS [26] [(26,aB (!(m.two == m.two)))] ?_
 refine kC (!(m.two == m.two)) (fun h2 => ?_) (fun h2 => ?_)
 have h2n := not_t h2
 simp at h2n
 have h2n := not_f h2
 have h2np := eqT h2n
 refine kK <| kQ <| aS [4] [(4,aB true)] <| kR ?_
 exact ⟨[.bool true],by kernel_rfl,fun w' hb hf => ⟨rfl,hb⟩⟩
theorem yeqLimits_c (a : Lim) (w : World)  : Calls Try.prog 32 #[.agg (bJ a).toArray, .agg (bJ a).toArray] w fun e w' => e = .returned (.bool true) ∧ Below w.heap.size w w' := by
 refine ad (args := [.agg (bJ a).toArray,.agg (bJ a).toArray]) (fn := Try.f32) [] Try.func32 rfl Try.ntmps32 rfl (by simp) ?_
 refine kQ <| ct [2,3] ⟨[(2,.p 0 0),(3,.p 1 0)],[⟨44,bJ a⟩,⟨44,bJ a⟩],[],[]⟩ <| kS <| kQ <| bk [2,3,9] [(9,aB (a.halves != a.halves))] ?_
 refine kC (a.halves != a.halves) (fun h1 => ?_) (fun h1 => ?_)
 simp at h1
 have h1p := neF h1
 refine kK <| kS <| kQ <| bk [2,3,14] [(14,aB (a.waiting != a.waiting))] ?_
 refine kC (a.waiting != a.waiting) (fun h2 => ?_) (fun h2 => ?_)
 simp at h2
 have h2p := neF h2
 refine kK <| kS <| kQ <| bk [2,3,19] [(19,aB (a.conns != a.conns))] ?_
 refine kC (a.conns != a.conns) (fun h3 => ?_) (fun h3 => ?_)
 simp at h3
 have h3p := neF h3
 refine kK <| kS <| kQ <| aS [24] [(24,aB (a.chal != a.chal))] ?_
 refine kC (a.chal != a.chal) (fun h4 => ?_) (fun h4 => ?_)
 simp at h4
 have h4p := neF h4
 refine kK <| kQ <| aS [4] [(4,aB true)] <| kR ?_
 exact ⟨[.bool true],by kernel_rfl,fun w' hb hf => ⟨rfl,hb⟩⟩
theorem yeqDoor_c (m : Dor) (a : List CV) (p_keys_now_rowsV : Value) (p_keys_before_rowsV : Value) (p_halvesV : Value) (p_table_connsV : Value) (p_table_waitingV : Value) (b : List CV) (q_keys_now_rowsV : Value) (q_keys_before_rowsV : Value) (q_halvesV : Value) (q_table_connsV : Value) (q_table_waitingV : Value) (w : World) (hl_p_keys_now_rowsV : Sl w p_keys_now_rowsV 2 (m.keys.now.rows.map a5)) (hl_p_keys_before_rowsV : Sl w p_keys_before_rowsV 2 (m.keys.before.rows.map a5)) (hl_p_halvesV : Sl w p_halvesV 13 (m.halves.map a8)) (hl_p_table_connsV : Sl w p_table_connsV 25 (a.map ar)) (hh_p_table_connsV : ∀ x ∈ a, Sl w x.2 2 (x.1.r.held.map pC)) (hl_p_table_waitingV : Sl w p_table_waitingV 3 (m.table.waiting.map a7)) (hl_q_keys_now_rowsV : Sl w q_keys_now_rowsV 2 (m.keys.now.rows.map a5)) (hl_q_keys_before_rowsV : Sl w q_keys_before_rowsV 2 (m.keys.before.rows.map a5)) (hl_q_halvesV : Sl w q_halvesV 13 (m.halves.map a8)) (hl_q_table_connsV : Sl w q_table_connsV 25 (b.map ar)) (hh_q_table_connsV : ∀ x ∈ b, Sl w x.2 2 (x.1.r.held.map pC)) (hl_q_table_waitingV : Sl w q_table_waitingV 3 (m.table.waiting.map a7)) (hpl : pl a = pl b) : Calls Try.prog 10 #[.agg #[iI m.port, iI m.clock, iI m.keys.epoch, .bool m.keys.now.use, .int .u64 m.keys.now.k, .int .u64 m.keys.now.l, p_keys_now_rowsV, .bool m.keys.before.use, .int .u64 m.keys.before.k, .int .u64 m.keys.before.l, p_keys_before_rowsV, .bool m.keys.two, iI m.lim.halves, iI m.lim.waiting, iI m.lim.conns, iI m.lim.chal, p_halvesV, p_table_connsV, p_table_waitingV, iI m.chal], .agg #[iI m.port, iI m.clock, iI m.keys.epoch, .bool m.keys.now.use, .int .u64 m.keys.now.k, .int .u64 m.keys.now.l, q_keys_now_rowsV, .bool m.keys.before.use, .int .u64 m.keys.before.k, .int .u64 m.keys.before.l, q_keys_before_rowsV, .bool m.keys.two, iI m.lim.halves, iI m.lim.waiting, iI m.lim.conns, iI m.lim.chal, q_halvesV, q_table_connsV, q_table_waitingV, iI m.chal]] w fun e w' => e = .returned (.bool true) ∧ Below w.heap.size w w' := by
 obtain ⟨Apknr,Cpknr,hvpknr⟩ := hl_p_keys_now_rowsV.form
 rw [List.length_map] at hvpknr; subst hvpknr
 have hnpknr := hl_p_keys_now_rowsV.len; rw [List.length_map] at hnpknr
 have hqpknr := Sl.capLe hl_p_keys_now_rowsV
 obtain ⟨Apkbr,Cpkbr,hvpkbr⟩ := hl_p_keys_before_rowsV.form
 rw [List.length_map] at hvpkbr; subst hvpkbr
 have hnpkbr := hl_p_keys_before_rowsV.len; rw [List.length_map] at hnpkbr
 have hqpkbr := Sl.capLe hl_p_keys_before_rowsV
 obtain ⟨Aph,Cph,hvph⟩ := hl_p_halvesV.form
 rw [List.length_map] at hvph; subst hvph
 have hnph := hl_p_halvesV.len; rw [List.length_map] at hnph
 have hqph := Sl.capLe hl_p_halvesV
 obtain ⟨Aptc,Cptc,hvptc⟩ := hl_p_table_connsV.form
 rw [List.length_map] at hvptc; subst hvptc
 have hnptc := hl_p_table_connsV.len; rw [List.length_map] at hnptc
 have hqptc := Sl.capLe hl_p_table_connsV
 obtain ⟨Aptw,Cptw,hvptw⟩ := hl_p_table_waitingV.form
 rw [List.length_map] at hvptw; subst hvptw
 have hnptw := hl_p_table_waitingV.len; rw [List.length_map] at hnptw
 have hqptw := Sl.capLe hl_p_table_waitingV
 obtain ⟨Aqknr,Cqknr,hvqknr⟩ := hl_q_keys_now_rowsV.form
 rw [List.length_map] at hvqknr; subst hvqknr
 have hnqknr := hl_q_keys_now_rowsV.len; rw [List.length_map] at hnqknr
 have hqqknr := Sl.capLe hl_q_keys_now_rowsV
 obtain ⟨Aqkbr,Cqkbr,hvqkbr⟩ := hl_q_keys_before_rowsV.form
 rw [List.length_map] at hvqkbr; subst hvqkbr
 have hnqkbr := hl_q_keys_before_rowsV.len; rw [List.length_map] at hnqkbr
 have hqqkbr := Sl.capLe hl_q_keys_before_rowsV
 obtain ⟨Aqh,Cqh,hvqh⟩ := hl_q_halvesV.form
 rw [List.length_map] at hvqh; subst hvqh
 have hnqh := hl_q_halvesV.len; rw [List.length_map] at hnqh
 have hqqh := Sl.capLe hl_q_halvesV
 obtain ⟨Aqtc,Cqtc,hvqtc⟩ := hl_q_table_connsV.form
 rw [List.length_map] at hvqtc; subst hvqtc
 have hnqtc := hl_q_table_connsV.len; rw [List.length_map] at hnqtc
 have hqqtc := Sl.capLe hl_q_table_connsV
 obtain ⟨Aqtw,Cqtw,hvqtw⟩ := hl_q_table_waitingV.form
 rw [List.length_map] at hvqtw; subst hvqtw
 have hnqtw := hl_q_table_waitingV.len; rw [List.length_map] at hnqtw
 have hqqtw := Sl.capLe hl_q_table_waitingV
 refine ad (args := [.agg (aZ { m with table := { m.table with conns := a } } (.slice Apknr m.keys.now.rows.length Cpknr) (.slice Apkbr m.keys.before.rows.length Cpkbr) (.slice Aph m.halves.length Cph) (.slice Aptc a.length Cptc) (.slice Aptw m.table.waiting.length Cptw)).toArray,.agg (aZ { m with table := { m.table with conns := b } } (.slice Aqknr m.keys.now.rows.length Cqknr) (.slice Aqkbr m.keys.before.rows.length Cqkbr) (.slice Aqh m.halves.length Cqh) (.slice Aqtc b.length Cqtc) (.slice Aqtw m.table.waiting.length Cqtw)).toArray]) (fn := Try.f10) [a9 (.slice Apknr m.keys.now.rows.length Cpknr) 2 (m.keys.now.rows.map a5),a9 (.slice Apkbr m.keys.before.rows.length Cpkbr) 2 (m.keys.before.rows.map a5),a9 (.slice Aph m.halves.length Cph) 13 (m.halves.map a8),a9 (.slice Aptc a.length Cptc) 25 (a.map ar),ac a,a9 (.slice Aptw m.table.waiting.length Cptw) 3 (m.table.waiting.map a7),a9 (.slice Aqknr m.keys.now.rows.length Cqknr) 2 (m.keys.now.rows.map a5),a9 (.slice Aqkbr m.keys.before.rows.length Cqkbr) 2 (m.keys.before.rows.map a5),a9 (.slice Aqh m.halves.length Cqh) 13 (m.halves.map a8),a9 (.slice Aqtc b.length Cqtc) 25 (b.map ar),ac b,a9 (.slice Aqtw m.table.waiting.length Cqtw) 3 (m.table.waiting.map a7)] Try.func10 rfl Try.ntmps10 rfl (by simp only [List.mem_cons,List.not_mem_nil,or_false,forall_eq_or_imp,forall_eq]; exact ⟨⟨rfl,hl_p_keys_now_rowsV⟩,⟨rfl,hl_p_keys_before_rowsV⟩,⟨rfl,hl_p_halvesV⟩,⟨rfl,hl_p_table_connsV⟩,⟨rfl,hh_p_table_connsV⟩,⟨rfl,hl_p_table_waitingV⟩,⟨rfl,hl_q_keys_now_rowsV⟩,⟨rfl,hl_q_keys_before_rowsV⟩,⟨rfl,hl_q_halvesV⟩,⟨rfl,hl_q_table_connsV⟩,⟨rfl,hh_q_table_connsV⟩,⟨rfl,hl_q_table_waitingV⟩⟩) ?_
 refine kQ <| ct [2,3] ⟨[(2,.p 0 0),(3,.p 1 0)],[⟨51,aZ { m with table := { m.table with conns := a } } (.slice Apknr m.keys.now.rows.length Cpknr) (.slice Apkbr m.keys.before.rows.length Cpkbr) (.slice Aph m.halves.length Cph) (.slice Aptc a.length Cptc) (.slice Aptw m.table.waiting.length Cptw)⟩,⟨51,aZ { m with table := { m.table with conns := b } } (.slice Aqknr m.keys.now.rows.length Cqknr) (.slice Aqkbr m.keys.before.rows.length Cqkbr) (.slice Aqh m.halves.length Cqh) (.slice Aqtc b.length Cqtc) (.slice Aqtw m.table.waiting.length Cqtw)⟩],[],[a9 (.slice Apknr m.keys.now.rows.length Cpknr) 2 (m.keys.now.rows.map a5),a9 (.slice Apkbr m.keys.before.rows.length Cpkbr) 2 (m.keys.before.rows.map a5),a9 (.slice Aph m.halves.length Cph) 13 (m.halves.map a8),a9 (.slice Aptc a.length Cptc) 25 (a.map ar),ac a,a9 (.slice Aptw m.table.waiting.length Cptw) 3 (m.table.waiting.map a7),a9 (.slice Aqknr m.keys.now.rows.length Cqknr) 2 (m.keys.now.rows.map a5),a9 (.slice Aqkbr m.keys.before.rows.length Cqkbr) 2 (m.keys.before.rows.map a5),a9 (.slice Aqh m.halves.length Cqh) 13 (m.halves.map a8),a9 (.slice Aqtc b.length Cqtc) 25 (b.map ar),ac b,a9 (.slice Aqtw m.table.waiting.length Cqtw) 3 (m.table.waiting.map a7)]⟩ <| kS <| kQ <| bk [2,3,9] [(9,aB (m.port != m.port))] ?_
 refine kC (m.port != m.port) (fun h1 => ?_) (fun h1 => ?_)
 simp at h1
 have h1p := neF h1
 refine kK <| kS <| kQ <| bk [2,3,14] [(14,aB (m.clock != m.clock))] ?_
 refine kC (m.clock != m.clock) (fun h2 => ?_) (fun h2 => ?_)
 simp at h2
 have h2p := neF h2
 refine kK <| kS <| kQ <| kCD 4 [2,3,16,18] [(16,.v (.agg (aC m.keys (.slice Apknr m.keys.now.rows.length Cpknr) (.slice Apkbr m.keys.before.rows.length Cpkbr)).toArray)),(18,.v (.agg (aC m.keys (.slice Aqknr m.keys.now.rows.length Cqknr) (.slice Aqkbr m.keys.before.rows.length Cqkbr)).toArray))] 31 [.agg (aC m.keys (.slice Apknr m.keys.now.rows.length Cpknr) (.slice Apkbr m.keys.before.rows.length Cpkbr)).toArray,.agg (aC m.keys (.slice Aqknr m.keys.now.rows.length Cqknr) (.slice Aqkbr m.keys.before.rows.length Cqkbr)).toArray] (some 19) rfl (bL fun ww hf => yeqKeys_c m.keys (.slice Apknr m.keys.now.rows.length Cpknr) (.slice Apkbr m.keys.before.rows.length Cpkbr) (.slice Aqknr m.keys.now.rows.length Cqknr) (.slice Aqkbr m.keys.before.rows.length Cqkbr) ww (hf _ m0) (hf _ m1) (hf _ m6) (hf _ m7)) ?_
 intro _
 refine bk [2,3,20] [(20,aB false)] <| kN <| kK <| kS <| kQ <| kCD 4 [2,3,22,24] [(22,.v (.agg (bJ m.lim).toArray)),(24,.v (.agg (bJ m.lim).toArray))] 32 [.agg (bJ m.lim).toArray,.agg (bJ m.lim).toArray] (some 25) rfl (bL fun ww hf => yeqLimits_c m.lim ww) ?_
 intro _
 refine bk [2,3,26] [(26,aB false)] <| kN <| kK <| kS <| kQ <| kCD 4 [2,3,28,30] [(28,.v (.slice Aph m.halves.length Cph)),(30,.v (.slice Aqh m.halves.length Cqh))] 33 [.slice Aph m.halves.length Cph,.slice Aqh m.halves.length Cqh] (some 31) rfl (bL fun ww hf => eqHalfS_c (.slice Aph m.halves.length Cph) (.slice Aqh m.halves.length Cqh) m.halves ww (hf _ m2) (hf (a9 (.slice Aqh m.halves.length Cqh) 13 (m.halves.map a8)) (by simp))) ?_
 intro _
 refine bk [2,3,32] [(32,aB false)] <| kN <| kK <| kS <| kQ <| kCD 4 [2,3,34,36] [(34,.v (.agg (bh { m.table with conns := a } (.slice Aptc a.length Cptc) (.slice Aptw m.table.waiting.length Cptw)).toArray)),(36,.v (.agg (bh { m.table with conns := b } (.slice Aqtc b.length Cqtc) (.slice Aqtw m.table.waiting.length Cqtw)).toArray))] 34 [.agg (bh { m.table with conns := a } (.slice Aptc a.length Cptc) (.slice Aptw m.table.waiting.length Cptw)).toArray,.agg (bh { m.table with conns := b } (.slice Aqtc b.length Cqtc) (.slice Aqtw m.table.waiting.length Cqtw)).toArray] (some 37) rfl (bL fun ww hf => yeqTable_c a m.table.waiting (.slice Aptc a.length Cptc) (.slice Aptw m.table.waiting.length Cptw) b (.slice Aqtc b.length Cqtc) (.slice Aqtw m.table.waiting.length Cqtw) ww (hf _ m3) (hf _ m4) (hf _ m5) (hf (a9 (.slice Aqtc b.length Cqtc) 25 (b.map ar)) (by simp)) (hf (ac b) (by simp)) (hf (a9 (.slice Aqtw m.table.waiting.length Cqtw) 3 (m.table.waiting.map a7)) (by simp)) (by first | assumption | (simp only [hpl]; done))) ?_
 intro _
 refine bk [2,3,38] [(38,aB false)] <| kN <| kK <| kS <| kQ <| aS [43] [(43,aB (m.chal != m.chal))] ?_
 refine kC (m.chal != m.chal) (fun h3 => ?_) (fun h3 => ?_)
 simp at h3
 have h3p := neF h3
 refine kK <| kQ <| aS [4] [(4,aB true)] <| kR ?_
 exact ⟨[.bool true],by kernel_rfl,fun w' hb hf => ⟨rfl,hb⟩⟩
end Go.Proofs.Ytfidgfddgmppdaa
