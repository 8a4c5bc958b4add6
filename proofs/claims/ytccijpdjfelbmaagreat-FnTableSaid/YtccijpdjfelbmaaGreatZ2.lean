/- Contracts that this law needs, part 2. -/
import Derived.Test.YtccijpdjfelbmaaGreatZ1
namespace Go.Proofs.YtccijpdjfelbmaaGreat
open Go.RowKit
set_option linter.unusedVariables false
set_option linter.unusedSimpArgs false
set_option maxRecDepth 100000
set_option maxHeartbeats 2000000

theorem yl25Copy_c (t : Tab) (t_connsV : Value) (t_waitingV : Value) (w : World) (hl_t_connsV : Sl w t_connsV 25 (t.conns.map aq)) (hh_t_connsV : ∀ x ∈ t.conns, Sl w x.2 2 (x.1.r.held.map pC)) (hl_t_waitingV : Sl w t_waitingV 3 (t.waiting.map a7)) (hfit : ∀ x ∈ t.conns, bW x.1) (hln : t.conns.length ≤ 1048576) (hlw : t.waiting.length ≤ 1048576) (B : Nat) (hB : B ≤ w.heap.size) : Calls Tryz.prog 32 #[.agg (bk t t_connsV t_waitingV).toArray] w fun e w' => XRs w w' e (α := {cs : List CV // pl cs = pl t.conns} × (Option Addr × Nat) × (Option Addr × Nat)) (fun y => .agg #[.slice y.2.1.1 y.1.1.length y.2.1.2, .slice y.2.2.1 t.waiting.length y.2.2.2]) (fun y => [a9 B 41 25 (.slice y.2.1.1 y.1.1.length y.2.1.2) (y.1.1.map aq), cT B y.1.1, a9 B 32 3 (.slice y.2.2.1 t.waiting.length y.2.2.2) (t.waiting.map a7)]) := by
 obtain ⟨Atc,Ctc,hvtc⟩ := hl_t_connsV.form
 rw [List.length_map] at hvtc; subst hvtc
 have hntc := hl_t_connsV.len; rw [List.length_map] at hntc
 have hqtc := Sl.capLe hl_t_connsV
 obtain ⟨Atw,Ctw,hvtw⟩ := hl_t_waitingV.form
 rw [List.length_map] at hvtw; subst hvtw
 have hntw := hl_t_waitingV.len; rw [List.length_map] at hntw
 have hqtw := Sl.capLe hl_t_waitingV
 refine cn (args := [.agg (bk t (.slice Atc t.conns.length Ctc) (.slice Atw t.waiting.length Ctw)).toArray]) (fn := Tryz.f32) [aJ (.slice Atc t.conns.length Ctc) 25 (t.conns.map aq),cL t.conns,aJ (.slice Atw t.waiting.length Ctw) 3 (t.waiting.map a7)] Tryz.func32 rfl Tryz.ntmps32 rfl (by simp only [List.mem_cons,List.not_mem_nil,or_false,forall_eq_or_imp,forall_eq]; exact ⟨⟨rfl,hl_t_connsV⟩,⟨rfl,hh_t_connsV⟩,⟨rfl,hl_t_waitingV⟩⟩) ?_
 refine kQ <| cm [1,2] ⟨[(1,.p 0 0),(2,.p 1 0)],[⟨27,bk t (.slice Atc t.conns.length Ctc) (.slice Atw t.waiting.length Ctw)⟩,⟨27,[.slice none 0 0,.slice none 0 0]⟩],[],[aJ (.slice Atc t.conns.length Ctc) 25 (t.conns.map aq),cL t.conns,aJ (.slice Atw t.waiting.length Ctw) 3 (t.waiting.map a7)]⟩ <| kQ <| kHD 0 [1,2] [] rfl (aH (e := 32) (K := 3) (bytes := 24) [] (rs := ([] : List Tup).map a7) rfl rfl) ?_
 intro g1
 refine kHD 2 [1,2,5,7] [(7,.v (.slice Atw t.waiting.length Ctw))] rfl (aE (e := 32) (K := 3) (bytes := 24) (i := 0) (q := t.waiting.length) (new := t.waiting.map a7) (rs' := t.waiting.map a7) rfl rfl rfl rfl (by kernel_rfl) (by kernel_rfl) (by kernel_rfl) rfl (by simp) rfl (by simp) (fun ww hf => (hf (aJ (.slice Atw t.waiting.length Ctw) 3 (t.waiting.map a7)) (by simp))) (by intro r hr; obtain ⟨x,hx,rfl⟩ := List.mem_map.1 hr; exact ⟨rfl,by simp [a7,Value.oneCell']⟩) (by (try simp only [List.length_map,List.length_append,List.length_cons,List.length_nil,List.length_take,List.length_drop,maxLen]); omega) (by (try simp only [List.length_map,List.length_append,List.length_cons,List.length_nil,List.length_take,List.length_drop,maxLen]); omega)) ?_
 rintro ⟨v2a,v2c⟩
 refine gc 0 [1,2,8] [] (.agg (bk { t with conns := [] } (.slice none 0 0) (.slice v2a t.waiting.length v2c)).toArray) rfl (fun _ _ _ ww hr => bn [(1,.slice v2a t.waiting.length v2c)] hr.1 rfl (by kernel_rfl) (by kernel_rfl) ww) ?_
 refine gk [1,2,3] [(3,.p 2 0)] [⟨27,bk { t with conns := [] } (.slice none 0 0) (.slice v2a t.waiting.length v2c)⟩] <| kS <| kQ <| aW [1,2,3,4] [(4,aI 0)] ?_
 refine ao <| gR (a9 w.heap.size 41 25 (.slice none 0 0) []) (fun ww hww => nilF_p _ _ ww hww) (fun b => nilF_b _ _ _ b) <| gR (cT w.heap.size ([])) hownF_nilp (fun b => hownF_nob) <| bc (α := {x : Nat × List CV × Option Addr × Nat // (fun (i : Nat) (L : List CV) (A : Option Addr) (cap : Nat) => i ≤ t.conns.length ∧ pl L = (pl t.conns).take i) x.1 x.2.1 x.2.2.1 x.2.2.2}) (fun x => (fun (i : Nat) (L : List CV) (A : Option Addr) (cap : Nat) => (⟨[(1,.p 0 0),(2,.p 1 0),(3,.p 2 0),(4,aI (i : Int))],[⟨27,bk t (.slice Atc t.conns.length Ctc) (.slice Atw t.waiting.length Ctw)⟩,⟨27,[.slice none 0 0,.slice none 0 0]⟩,⟨27,bk { t with conns := L } (.slice A L.length cap) (.slice v2a t.waiting.length v2c)⟩],[],[cT w.heap.size L,a9 w.heap.size 41 25 (.slice A L.length cap) (L.map aq),a9 w.heap.size 32 3 (.slice v2a t.waiting.length v2c) (t.waiting.map a7),aJ (.slice Atc t.conns.length Ctc) 25 (t.conns.map aq),cL t.conns,aJ (.slice Atw t.waiting.length Ctw) 3 (t.waiting.map a7)]⟩ : St)) x.1.1 x.1.2.1 x.1.2.2.1 x.1.2.2.2) (fun x => (fun (i : Nat) (L : List CV) (A : Option Addr) (cap : Nat) => t.conns.length - i) x.1.1 x.1.2.1 x.1.2.2.1 x.1.2.2.2) ⟨(0,([] : List CV),none,0),⟨Nat.zero_le _,rfl⟩⟩ (kF 3 0 [1,2,3,4]) ?_
 rintro ⟨⟨i,L,A,cap⟩,hi,HL⟩
 try dsimp only
 try dsimp only at hi HL
 refine kS <| kQ <| aW [1,2,3,4,14] [(14,aB (decide ((i : Int) < ((t.conns.length : Nat) : Int))))] <| kC (decide ((i : Int) < ((t.conns.length : Nat) : Int))) (fun h3 => ?_) (fun h3 => ?_)
 have h3p := of_decide_eq_true h3
 have hlt : i < t.conns.length := by simpa using h3
 obtain ⟨x0,hx⟩ : ∃ x,t.conns[i]? = some x := ⟨_,List.getElem?_eq_getElem hlt⟩
 obtain ⟨x,xa,xc,rfl⟩ := eB (hh_t_connsV x0 (List.mem_of_getElem? hx))
 have hft_x : bW x := hfit _ (List.mem_of_getElem? hx)
 obtain ⟨hfs_x,hfr_x,hfh_x,hfp_x⟩ := hft_x
 have hLl := pl_take_len HL hi
 obtain ⟨bb,ob,hbb⟩ := sl_block hl_t_connsV (show (t.conns.map aq)[i]? = some _ from by rw [List.getElem?_map,hx]; rfl)
 refine kK <| kS <| ao <| ed (α := Option Addr × Nat × Option Addr × Nat × Nat) (fun y => (fun (v4a : Option Addr) (v4c : Nat) (v8a : Option Addr) (v8c : Nat) (g6 : Nat) => (⟨[(1,.p 0 0),(2,.p 1 0),(3,.p 2 0),(4,aI (i : Int))],[⟨27,bk t (.slice Atc t.conns.length Ctc) (.slice Atw t.waiting.length Ctw)⟩,⟨27,[.slice none 0 0,.slice none 0 0]⟩,⟨27,bk { t with conns := (L ++ ([((x,.slice v4a x.r.held.length v4c) : CV)] : List CV)) } (.slice v8a ((L ++ ([((x,.slice v4a x.r.held.length v4c) : CV)] : List CV)).length) v8c) (.slice v2a t.waiting.length v2c)⟩],[],[a9 w.heap.size 41 25 (.slice v8a ((L ++ ([((x,.slice v4a x.r.held.length v4c) : CV)] : List CV)).length) v8c) ((L ++ ([((x,.slice v4a x.r.held.length v4c) : CV)] : List CV)).map aq),a9 w.heap.size 41 25 (.slice (some ⟨g6,0,none⟩) 1 1) (([((x,.slice v4a x.r.held.length v4c) : CV)] : List CV).map aq),bm w.heap.size (cS v4a x v4c) 2 (x.r.held.map pC),cT w.heap.size L,a9 w.heap.size 32 3 (.slice v2a t.waiting.length v2c) (t.waiting.map a7),aJ (.slice Atc t.conns.length Ctc) 25 (t.conns.map aq),cL t.conns,aJ (.slice Atw t.waiting.length Ctw) 3 (t.waiting.map a7)]⟩ : St)) y.1 y.2.1 y.2.2.1 y.2.2.2.1 y.2.2.2.2) ?_ ?_
 refine bo [true,true,false] (by kernel_rfl) (fun ρ σ => ?_)
 refine d9 [0,2,3,4] [21,20,17,1,2,3,4] 8 [(21,aI (i : Int)),(20,.v (.slice Atc t.conns.length Ctc)),(17,.p 2 0)] <| kX 5 (.pointer (some ⟨bb,ob + i * 25,none⟩)) rfl (fun _ _ ww hA => act_ixO (kd := .i64) (T := 24) (e := 41) (K := 25) (b := bb) (off := ob) (N := t.conns.length) (cap := Ctc) i hbb hA rfl rfl (by kernel_rfl) (by kernel_rfl) (by kernel_rfl) hlt ww) ?_
 refine kA [1,6] ⟨?_,?_⟩
 refine ev 1 (.v (.slice A L.length cap)) rfl <| kA [6] <| kSR 6 (.agg (a6 x (cS xa x xc)).toArray) rfl (fun _ _ ww hr => ldQ_run (po := 0) (j := i) (row := [iI x.t.ip,iI x.t.port,iI x.t.my,iI x.state,iI x.s.una,.string x.s.data,iI x.s.sent,.bool x.s.fin,.bool x.s.finSent,.bool x.s.done,iI x.r.next,.string x.r.data,.slice xa x.r.held.length xc,iI x.r.fin,.bool x.r.done,iI x.window,iI x.most,iI x.o.mss,iI x.o.scale,.bool x.o.sack,.bool x.o.stamp,iI x.o.val,iI x.o.echo,iI x.timer,iI x.tries]) (aJ (.slice Atc t.conns.length Ctc) 25 (t.conns.map aq)) (fun w h => h) hr rfl (by kernel_rfl) (by simp) (by simp only [List.getElem?_map,hx]; rfl) (by kernel_rfl) hbb) ?_
 refine kA [7] <| du 7 28 [.agg (a6 x (cS xa x xc)).toArray] (some 24) rfl (cb fun ww hw hf => d2 x (cS xa x xc) ww ((hf _ m4) (x,.slice xa x.r.held.length xc) (List.mem_of_getElem? hx)) (by assumption) w.heap.size hw) ?_
 rintro ⟨v4a,v4c⟩
 refine kA [8] <| e5 8 rfl (a5 (a5 (ap rfl a8))) (aH (e := 41) (K := 25) (bytes := 208) [.agg (a6 x (cS v4a x v4c)).toArray] (rs := ([((x,.slice v4a x.r.held.length v4c) : CV)] : List CV).map aq) (by rfl) rfl) ?_
 intro g6
 refine kA [9] <| e5 9 rfl (a5 (a5 (ap rfl a8))) (aE (e := 41) (K := 25) (bytes := 208) (i := 3) (q := (L ++ ([((x,.slice v4a x.r.held.length v4c) : CV)] : List CV)).length) (new := ([((x,.slice v4a x.r.held.length v4c) : CV)] : List CV).map aq) (rs' := (L ++ ([((x,.slice v4a x.r.held.length v4c) : CV)] : List CV)).map aq) rfl rfl rfl rfl (by kernel_rfl) (by kernel_rfl) (by kernel_rfl) rfl (by simp) (by rw [List.map_append]) (by simp) (fun ww hf => (ax (hf (a9 w.heap.size 41 25 (.slice (some ⟨g6,0,none⟩) 1 1) (([((x,.slice v4a x.r.held.length v4c) : CV)] : List CV).map aq)) (by simp)))) (by intro r hr; simp only [List.map_cons,List.map_nil,List.mem_singleton] at hr; subst hr; exact ⟨rfl,by simp [aq,a6,Value.oneCell']⟩) (by (try simp only [List.length_map,List.length_append,List.length_cons,List.length_nil,List.length_take,List.length_drop,maxLen]); omega) (by (try simp only [List.length_map,List.length_append,List.length_cons,List.length_nil,List.length_take,List.length_drop,maxLen]); omega)) ?_
 rintro ⟨v8a,v8c⟩
 refine d9 [10] [27,26,1,2,3,4] 1 [(27,.p 2 0)] <| kA [11] <| dg 11 2 0 [.slice v8a ((L ++ ([((x,.slice v4a x.r.held.length v4c) : CV)] : List CV)).length) v8c] rfl <| kZ ?_
 exact ⟨(v4a,v4c,v8a,v8c,g6),kF 3 0 [1,2,3,4]⟩
 refine kSR 6 (.agg (a6 x (cS xa x xc)).toArray) rfl (fun _ _ ww hr => ldQ_run (po := 0) (j := i) (row := [iI x.t.ip,iI x.t.port,iI x.t.my,iI x.state,iI x.s.una,.string x.s.data,iI x.s.sent,.bool x.s.fin,.bool x.s.finSent,.bool x.s.done,iI x.r.next,.string x.r.data,.slice xa x.r.held.length xc,iI x.r.fin,.bool x.r.done,iI x.window,iI x.most,iI x.o.mss,iI x.o.scale,.bool x.o.sack,.bool x.o.stamp,iI x.o.val,iI x.o.echo,iI x.timer,iI x.tries]) (aJ (.slice Atc t.conns.length Ctc) 25 (t.conns.map aq)) (fun w h => h) hr rfl (by kernel_rfl) (by simp) (by simp only [List.getElem?_map,hx]; rfl) (by kernel_rfl) hbb) ?_
 refine kA [1,7] ⟨?_,?_⟩
 refine ev 1 (.v (.slice A L.length cap)) rfl <| kA [7] <| du 7 28 [.agg (a6 x (cS xa x xc)).toArray] (some 24) rfl (cb fun ww hw hf => d2 x (cS xa x xc) ww ((hf _ m4) (x,.slice xa x.r.held.length xc) (List.mem_of_getElem? hx)) (by assumption) w.heap.size hw) ?_
 rintro ⟨v9a,v9c⟩
 refine kA [8] <| e5 8 rfl (a5 (a5 (ap rfl a8))) (aH (e := 41) (K := 25) (bytes := 208) [.agg (a6 x (cS v9a x v9c)).toArray] (rs := ([((x,.slice v9a x.r.held.length v9c) : CV)] : List CV).map aq) (by rfl) rfl) ?_
 intro g11
 refine kA [9] <| e5 9 rfl (a5 (a5 (ap rfl a8))) (aE (e := 41) (K := 25) (bytes := 208) (i := 3) (q := (L ++ ([((x,.slice v9a x.r.held.length v9c) : CV)] : List CV)).length) (new := ([((x,.slice v9a x.r.held.length v9c) : CV)] : List CV).map aq) (rs' := (L ++ ([((x,.slice v9a x.r.held.length v9c) : CV)] : List CV)).map aq) rfl rfl rfl rfl (by kernel_rfl) (by kernel_rfl) (by kernel_rfl) rfl (by simp) (by rw [List.map_append]) (by simp) (fun ww hf => (ax (hf (a9 w.heap.size 41 25 (.slice (some ⟨g11,0,none⟩) 1 1) (([((x,.slice v9a x.r.held.length v9c) : CV)] : List CV).map aq)) (by simp)))) (by intro r hr; simp only [List.map_cons,List.map_nil,List.mem_singleton] at hr; subst hr; exact ⟨rfl,by simp [aq,a6,Value.oneCell']⟩) (by (try simp only [List.length_map,List.length_append,List.length_cons,List.length_nil,List.length_take,List.length_drop,maxLen]); omega) (by (try simp only [List.length_map,List.length_append,List.length_cons,List.length_nil,List.length_take,List.length_drop,maxLen]); omega)) ?_
 rintro ⟨v13a,v13c⟩
 refine d9 [10] [27,26,1,2,3,4] 1 [(27,.p 2 0)] <| kA [11] <| dg 11 2 0 [.slice v13a ((L ++ ([((x,.slice v9a x.r.held.length v9c) : CV)] : List CV)).length) v13c] rfl <| kZ ?_
 exact ⟨(v9a,v9c,v13a,v13c,g11),kF 3 0 [1,2,3,4]⟩
 refine du 7 28 [.agg (a6 x (cS xa x xc)).toArray] (some 24) rfl (cb fun ww hw hf => d2 x (cS xa x xc) ww ((hf _ m4) (x,.slice xa x.r.held.length xc) (List.mem_of_getElem? hx)) (by assumption) w.heap.size hw) ?_
 rintro ⟨v14a,v14c⟩
 refine kA [1,8] ⟨?_,?_⟩
 refine ev 1 (.v (.slice A L.length cap)) rfl <| kA [8] <| e5 8 rfl (a5 (a5 (ap rfl a8))) (aH (e := 41) (K := 25) (bytes := 208) [.agg (a6 x (cS v14a x v14c)).toArray] (rs := ([((x,.slice v14a x.r.held.length v14c) : CV)] : List CV).map aq) (by rfl) rfl) ?_
 intro g17
 refine kA [9] <| e5 9 rfl (a5 (a5 (ap rfl a8))) (aE (e := 41) (K := 25) (bytes := 208) (i := 3) (q := (L ++ ([((x,.slice v14a x.r.held.length v14c) : CV)] : List CV)).length) (new := ([((x,.slice v14a x.r.held.length v14c) : CV)] : List CV).map aq) (rs' := (L ++ ([((x,.slice v14a x.r.held.length v14c) : CV)] : List CV)).map aq) rfl rfl rfl rfl (by kernel_rfl) (by kernel_rfl) (by kernel_rfl) rfl (by simp) (by rw [List.map_append]) (by simp) (fun ww hf => (ax (hf (a9 w.heap.size 41 25 (.slice (some ⟨g17,0,none⟩) 1 1) (([((x,.slice v14a x.r.held.length v14c) : CV)] : List CV).map aq)) (by simp)))) (by intro r hr; simp only [List.map_cons,List.map_nil,List.mem_singleton] at hr; subst hr; exact ⟨rfl,by simp [aq,a6,Value.oneCell']⟩) (by (try simp only [List.length_map,List.length_append,List.length_cons,List.length_nil,List.length_take,List.length_drop,maxLen]); omega) (by (try simp only [List.length_map,List.length_append,List.length_cons,List.length_nil,List.length_take,List.length_drop,maxLen]); omega)) ?_
 rintro ⟨v19a,v19c⟩
 refine d9 [10] [27,26,1,2,3,4] 1 [(27,.p 2 0)] <| kA [11] <| dg 11 2 0 [.slice v19a ((L ++ ([((x,.slice v14a x.r.held.length v14c) : CV)] : List CV)).length) v19c] rfl <| kZ ?_
 exact ⟨(v14a,v14c,v19a,v19c,g17),kF 3 0 [1,2,3,4]⟩
 refine e5 8 rfl (a5 (a5 (ap rfl a8))) (aH (e := 41) (K := 25) (bytes := 208) [.agg (a6 x (cS v14a x v14c)).toArray] (rs := ([((x,.slice v14a x.r.held.length v14c) : CV)] : List CV).map aq) (by rfl) rfl) ?_
 intro g20
 refine kA [1] <| ev 1 (.v (.slice A L.length cap)) rfl <| kA [9] <| e5 9 rfl (a5 (a5 (ap rfl a8))) (aE (e := 41) (K := 25) (bytes := 208) (i := 3) (q := (L ++ ([((x,.slice v14a x.r.held.length v14c) : CV)] : List CV)).length) (new := ([((x,.slice v14a x.r.held.length v14c) : CV)] : List CV).map aq) (rs' := (L ++ ([((x,.slice v14a x.r.held.length v14c) : CV)] : List CV)).map aq) rfl rfl rfl rfl (by kernel_rfl) (by kernel_rfl) (by kernel_rfl) rfl (by simp) (by rw [List.map_append]) (by simp) (fun ww hf => (ax (hf (a9 w.heap.size 41 25 (.slice (some ⟨g20,0,none⟩) 1 1) (([((x,.slice v14a x.r.held.length v14c) : CV)] : List CV).map aq)) (by simp)))) (by intro r hr; simp only [List.map_cons,List.map_nil,List.mem_singleton] at hr; subst hr; exact ⟨rfl,by simp [aq,a6,Value.oneCell']⟩) (by (try simp only [List.length_map,List.length_append,List.length_cons,List.length_nil,List.length_take,List.length_drop,maxLen]); omega) (by (try simp only [List.length_map,List.length_append,List.length_cons,List.length_nil,List.length_take,List.length_drop,maxLen]); omega)) ?_
 rintro ⟨v22a,v22c⟩
 refine d9 [10] [27,26,1,2,3,4] 1 [(27,.p 2 0)] <| kA [11] <| dg 11 2 0 [.slice v22a ((L ++ ([((x,.slice v14a x.r.held.length v14c) : CV)] : List CV)).length) v22c] rfl <| kZ ?_
 exact ⟨(v14a,v14c,v22a,v22c,g20),kF 3 0 [1,2,3,4]⟩
 rintro ⟨v4a,v4c,v8a,v8c,g6⟩
 refine kG <| kRF 3 [1,2,3,4] ⟨[(1,.p 0 0),(2,.p 1 0),(3,.p 2 0),(4,aI (K6.wrap ((i : Int) + 1)))],[⟨27,bk t (.slice Atc t.conns.length Ctc) (.slice Atw t.waiting.length Ctw)⟩,⟨27,[.slice none 0 0,.slice none 0 0]⟩,⟨27,bk { t with conns := (L ++ ([((x,.slice v4a x.r.held.length v4c) : CV)] : List CV)) } (.slice v8a ((L ++ ([((x,.slice v4a x.r.held.length v4c) : CV)] : List CV)).length) v8c) (.slice v2a t.waiting.length v2c)⟩],[],[a9 w.heap.size 41 25 (.slice v8a ((L ++ ([((x,.slice v4a x.r.held.length v4c) : CV)] : List CV)).length) v8c) ((L ++ ([((x,.slice v4a x.r.held.length v4c) : CV)] : List CV)).map aq),a9 w.heap.size 41 25 (.slice (some ⟨g6,0,none⟩) 1 1) (([((x,.slice v4a x.r.held.length v4c) : CV)] : List CV).map aq),bm w.heap.size (cS v4a x v4c) 2 (x.r.held.map pC),cT w.heap.size L,a9 w.heap.size 32 3 (.slice v2a t.waiting.length v2c) (t.waiting.map a7),aJ (.slice Atc t.conns.length Ctc) 25 (t.conns.map aq),cL t.conns,aJ (.slice Atw t.waiting.length Ctw) 3 (t.waiting.map a7)]⟩ <| cU [1,2,3,4] [(4,aI (K6.wrap ((i : Int) + 1)))] [(4,aI ((i : Int) + 1))] (by rw [show (K6.wrap ((i : Int) + 1)) = ((i : Int) + 1) from al (by omega) (by omega)]) (by kernel_rfl) ?_
 refine aW [1,2,3,4] [] ?_
 exact ⟨⟨(i + 1,(L ++ ([((x,.slice v4a x.r.held.length v4c) : CV)] : List CV)),v8a,v8c),⟨hlt,pl_snoc HL hx⟩⟩,eW [2,3,0,4,5,6,7] <| (fM (fun _ _ _ _ h => hown_snoc (cs := L) (x := ((x,.slice v4a x.r.held.length v4c) : CV)) h)).trans <| kF 3 0 [1,2,3,4],by show (fun (i : Nat) (L : List CV) (A : Option Addr) (cap : Nat) => t.conns.length - i) (i + 1) (L ++ ([((x,.slice v4a x.r.held.length v4c) : CV)] : List CV)) v8a v8c < t.conns.length - i; (dsimp only; omega)⟩
 have h3p := of_decide_eq_false h3
 have hge : i = t.conns.length := by simp at h3; omega
 refine bH <| kQ <| bC [2] [(2,.p 1 0)] 1 ⟨27,bk { t with conns := L } (.slice A L.length cap) (.slice v2a t.waiting.length v2c)⟩ <| kR ?_
 have hmc : pl L = pl t.conns := by exact pl_take_all HL hge
 exact ⟨[.agg (bk { t with conns := L } (.slice A L.length cap) (.slice v2a t.waiting.length v2c)).toArray],by kernel_rfl,fun w' hb hf ha => by exact xo3 (⟨L,hmc⟩,(A,cap),(v2a,v2c)) rfl rfl (pW (hf _ m1) hB) (pH (hf _ m0) hB) (pW (hf _ m2) hB) (Apart.sub3 ha [1,0,2] rfl (by decide) rfl rfl rfl (by exact fun b h => h) (fun b h => eV h) (by exact fun b h => h)) hb⟩
theorem ycloneTable_c (t : Tab) (t_connsV : Value) (t_waitingV : Value) (w : World) (hl_t_connsV : Sl w t_connsV 25 (t.conns.map aq)) (hh_t_connsV : ∀ x ∈ t.conns, Sl w x.2 2 (x.1.r.held.map pC)) (hl_t_waitingV : Sl w t_waitingV 3 (t.waiting.map a7)) (hfit : ∀ x ∈ t.conns, bW x.1) (hln : t.conns.length ≤ 1048576) (hlw : t.waiting.length ≤ 1048576) (B : Nat) (hB : B ≤ w.heap.size) : Calls Tryz.prog 21 #[.agg (bk t t_connsV t_waitingV).toArray] w fun e w' => XRs w w' e (α := {cs : List CV // pl cs = pl t.conns} × (Option Addr × Nat) × (Option Addr × Nat)) (fun y => .agg #[.slice y.2.1.1 y.1.1.length y.2.1.2, .slice y.2.2.1 t.waiting.length y.2.2.2]) (fun y => [a9 B 41 25 (.slice y.2.1.1 y.1.1.length y.2.1.2) (y.1.1.map aq), cT B y.1.1, a9 B 32 3 (.slice y.2.2.1 t.waiting.length y.2.2.2) (t.waiting.map a7)]) := by
 obtain ⟨Atc,Ctc,hvtc⟩ := hl_t_connsV.form
 rw [List.length_map] at hvtc; subst hvtc
 have hntc := hl_t_connsV.len; rw [List.length_map] at hntc
 have hqtc := Sl.capLe hl_t_connsV
 obtain ⟨Atw,Ctw,hvtw⟩ := hl_t_waitingV.form
 rw [List.length_map] at hvtw; subst hvtw
 have hntw := hl_t_waitingV.len; rw [List.length_map] at hntw
 have hqtw := Sl.capLe hl_t_waitingV
 refine cn (args := [.agg (bk t (.slice Atc t.conns.length Ctc) (.slice Atw t.waiting.length Ctw)).toArray]) (fn := Tryz.f21) [aJ (.slice Atc t.conns.length Ctc) 25 (t.conns.map aq),cL t.conns,aJ (.slice Atw t.waiting.length Ctw) 3 (t.waiting.map a7)] Tryz.func21 rfl Tryz.ntmps21 rfl (by simp only [List.mem_cons,List.not_mem_nil,or_false,forall_eq_or_imp,forall_eq]; exact ⟨⟨rfl,hl_t_connsV⟩,⟨rfl,hh_t_connsV⟩,⟨rfl,hl_t_waitingV⟩⟩) ?_
 refine kQ <| cm [1,2] ⟨[(1,.p 0 0),(2,.p 1 0)],[⟨27,bk t (.slice Atc t.conns.length Ctc) (.slice Atw t.waiting.length Ctw)⟩,⟨27,[.slice none 0 0,.slice none 0 0]⟩],[],[aJ (.slice Atc t.conns.length Ctc) 25 (t.conns.map aq),cL t.conns,aJ (.slice Atw t.waiting.length Ctw) 3 (t.waiting.map a7)]⟩ <| kQ <| dR 2 [1,2,7] [(7,.v (.slice Atw t.waiting.length Ctw))] 49 [.slice Atw t.waiting.length Ctw] (some 8) rfl (cb fun ww hw hf => yCloneTuple_c t.waiting (.slice Atw t.waiting.length Ctw) ww (hf _ m2) (by assumption) w.heap.size hw) ?_
 rintro ⟨v1a,v1c⟩
 refine gc 0 [1,2,8] [] (.agg (bk { t with conns := [] } (.slice none 0 0) (.slice v1a t.waiting.length v1c)).toArray) rfl (fun _ _ _ ww hr => bn [(1,.slice v1a t.waiting.length v1c)] hr.1 rfl (by kernel_rfl) (by kernel_rfl) ww) ?_
 refine gk [1,2,3] [(3,.p 2 0)] [⟨27,bk { t with conns := [] } (.slice none 0 0) (.slice v1a t.waiting.length v1c)⟩] <| kS <| kQ <| aW [2,3,11,12,13] [(11,.v (.slice Atc t.conns.length Ctc)),(12,aI ((t.conns.length : Nat) : Int)),(13,aI 0)] ?_
 refine ao <| gR (a9 w.heap.size 41 25 (.slice none 0 0) []) (fun ww hww => nilF_p _ _ ww hww) (fun b => nilF_b _ _ _ b) <| gR (cT w.heap.size ([])) hownF_nilp (fun b => hownF_nob) <| bc (α := {x : Nat × List CV × Option Addr × Nat // (fun (i : Nat) (L : List CV) (A : Option Addr) (cap : Nat) => i ≤ t.conns.length ∧ pl L = (pl t.conns).take i) x.1 x.2.1 x.2.2.1 x.2.2.2}) (fun x => (fun (i : Nat) (L : List CV) (A : Option Addr) (cap : Nat) => (⟨[(2,.p 1 0),(3,.p 2 0),(11,.v (.slice Atc t.conns.length Ctc)),(12,aI ((t.conns.length : Nat) : Int)),(13,aI (i : Int))],[⟨27,bk t (.slice Atc t.conns.length Ctc) (.slice Atw t.waiting.length Ctw)⟩,⟨27,[.slice none 0 0,.slice none 0 0]⟩,⟨27,bk { t with conns := L } (.slice A L.length cap) (.slice v1a t.waiting.length v1c)⟩],[],[cT w.heap.size L,a9 w.heap.size 41 25 (.slice A L.length cap) (L.map aq),a9 w.heap.size 32 3 (.slice v1a t.waiting.length v1c) (t.waiting.map a7),aJ (.slice Atc t.conns.length Ctc) 25 (t.conns.map aq),cL t.conns,aJ (.slice Atw t.waiting.length Ctw) 3 (t.waiting.map a7)]⟩ : St)) x.1.1 x.1.2.1 x.1.2.2.1 x.1.2.2.2) (fun x => (fun (i : Nat) (L : List CV) (A : Option Addr) (cap : Nat) => t.conns.length - i) x.1.1 x.1.2.1 x.1.2.2.1 x.1.2.2.2) ⟨(0,([] : List CV),none,0),⟨Nat.zero_le _,rfl⟩⟩ (kF 3 0 [2,3,11,12,13]) ?_
 rintro ⟨⟨i,L,A,cap⟩,hi,HL⟩
 try dsimp only
 try dsimp only at hi HL
 refine kQ <| aW [2,3,11,12,13,14] [(14,aB (decide ((i : Int) < ((t.conns.length : Nat) : Int))))] <| kS <| kC (decide ((i : Int) < ((t.conns.length : Nat) : Int))) (fun h2 => ?_) (fun h2 => ?_)
 have h2p := of_decide_eq_true h2
 have hlt : i < t.conns.length := by simpa using h2
 obtain ⟨x0,hx⟩ : ∃ x,t.conns[i]? = some x := ⟨_,List.getElem?_eq_getElem hlt⟩
 obtain ⟨x,xa,xc,rfl⟩ := eB (hh_t_connsV x0 (List.mem_of_getElem? hx))
 have hft_x : bW x := hfit _ (List.mem_of_getElem? hx)
 obtain ⟨hfs_x,hfr_x,hfh_x,hfp_x⟩ := hft_x
 have hLl := pl_take_len HL hi
 refine kK <| kS <| ao <| kQ <| de (kd := .i64) (T := 24) (e := 41) (K := 25) 0 [2,3,11,12,13] [] i [iI x.t.ip,iI x.t.port,iI x.t.my,iI x.state,iI x.s.una,.string x.s.data,iI x.s.sent,.bool x.s.fin,.bool x.s.finSent,.bool x.s.done,iI x.r.next,.string x.r.data,.slice xa x.r.held.length xc,iI x.r.fin,.bool x.r.done,iI x.window,iI x.most,iI x.o.mss,iI x.o.scale,.bool x.o.sack,.bool x.o.stamp,iI x.o.val,iI x.o.echo,iI x.timer,iI x.tries] (aJ (.slice Atc t.conns.length Ctc) 25 (t.conns.map aq)) (by kernel_rfl) rfl (by kernel_rfl) rfl rfl (by kernel_rfl) (by kernel_rfl) (by kernel_rfl) (by kernel_rfl) hlt (by simp) (fun w h => h) (fun b h => h) (by simp only [List.getElem?_map,hx]; rfl) ?_
 refine gk [2,3,5,11,12,13] [(5,.p 3 0)] [⟨41,a6 x (cS xa x xc)⟩] <| ed (α := Option Addr × Nat × Option Addr × Nat × Nat) (fun y => (fun (v3a : Option Addr) (v3c : Nat) (v7a : Option Addr) (v7c : Nat) (g5 : Nat) => (⟨[(2,.p 1 0),(3,.p 2 0),(11,.v (.slice Atc t.conns.length Ctc)),(12,aI ((t.conns.length : Nat) : Int)),(13,aI (i : Int))],[⟨27,bk t (.slice Atc t.conns.length Ctc) (.slice Atw t.waiting.length Ctw)⟩,⟨27,[.slice none 0 0,.slice none 0 0]⟩,⟨27,bk { t with conns := (L ++ ([((x,.slice v3a x.r.held.length v3c) : CV)] : List CV)) } (.slice v7a ((L ++ ([((x,.slice v3a x.r.held.length v3c) : CV)] : List CV)).length) v7c) (.slice v1a t.waiting.length v1c)⟩,⟨41,a6 x (cS xa x xc)⟩],[],[a9 w.heap.size 41 25 (.slice v7a ((L ++ ([((x,.slice v3a x.r.held.length v3c) : CV)] : List CV)).length) v7c) ((L ++ ([((x,.slice v3a x.r.held.length v3c) : CV)] : List CV)).map aq),a9 w.heap.size 41 25 (.slice (some ⟨g5,0,none⟩) 1 1) (([((x,.slice v3a x.r.held.length v3c) : CV)] : List CV).map aq),bm w.heap.size (cS v3a x v3c) 2 (x.r.held.map pC),cT w.heap.size L,a9 w.heap.size 32 3 (.slice v1a t.waiting.length v1c) (t.waiting.map a7),aJ (.slice Atc t.conns.length Ctc) 25 (t.conns.map aq),cL t.conns,aJ (.slice Atw t.waiting.length Ctw) 3 (t.waiting.map a7)]⟩ : St)) y.1 y.2.1 y.2.2.1 y.2.2.2.1 y.2.2.2.2) ?_ ?_
 refine bo [true,true,false,true] (by kernel_rfl) (fun ρ σ => ?_)
 refine d9 [0,2] [19,17,2,3,11,12,13] 6 [(19,.v (.agg (a6 x (cS xa x xc)).toArray)),(17,.p 2 0)] <| kA [1,3] ⟨?_,?_⟩
 refine ev 1 (.v (.slice A L.length cap)) rfl <| kA [3] <| du 3 31 [.agg (a6 x (cS xa x xc)).toArray] (some 20) rfl (cb fun ww hw hf => fN x (cS xa x xc) ww ((hf _ m4) (x,.slice xa x.r.held.length xc) (List.mem_of_getElem? hx)) (by assumption) w.heap.size hw) ?_
 rintro ⟨v3a,v3c⟩
 refine kA [4] <| e5 4 rfl (a5 (a5 (ap rfl (a5 a8)))) (aH (e := 41) (K := 25) (bytes := 208) [.agg (a6 x (cS v3a x v3c)).toArray] (rs := ([((x,.slice v3a x.r.held.length v3c) : CV)] : List CV).map aq) (by rfl) rfl) ?_
 intro g5
 refine kA [5] <| e5 5 rfl (a5 (a5 (ap rfl (a5 a8)))) (aE (e := 41) (K := 25) (bytes := 208) (i := 3) (q := (L ++ ([((x,.slice v3a x.r.held.length v3c) : CV)] : List CV)).length) (new := ([((x,.slice v3a x.r.held.length v3c) : CV)] : List CV).map aq) (rs' := (L ++ ([((x,.slice v3a x.r.held.length v3c) : CV)] : List CV)).map aq) rfl rfl rfl rfl (by kernel_rfl) (by kernel_rfl) (by kernel_rfl) rfl (by simp) (by rw [List.map_append]) (by simp) (fun ww hf => (ax (hf (a9 w.heap.size 41 25 (.slice (some ⟨g5,0,none⟩) 1 1) (([((x,.slice v3a x.r.held.length v3c) : CV)] : List CV).map aq)) (by simp)))) (by intro r hr; simp only [List.map_cons,List.map_nil,List.mem_singleton] at hr; subst hr; exact ⟨rfl,by simp [aq,a6,Value.oneCell']⟩) (by (try simp only [List.length_map,List.length_append,List.length_cons,List.length_nil,List.length_take,List.length_drop,maxLen]); omega) (by (try simp only [List.length_map,List.length_append,List.length_cons,List.length_nil,List.length_take,List.length_drop,maxLen]); omega)) ?_
 rintro ⟨v7a,v7c⟩
 refine d9 [6] [23,22,2,3,11,12,13] 1 [(23,.p 2 0)] <| kA [7] <| dg 7 2 0 [.slice v7a ((L ++ ([((x,.slice v3a x.r.held.length v3c) : CV)] : List CV)).length) v7c] rfl <| kZ ?_
 exact ⟨(v3a,v3c,v7a,v7c,g5),kF 4 0 [2,3,11,12,13]⟩
 refine du 3 31 [.agg (a6 x (cS xa x xc)).toArray] (some 20) rfl (cb fun ww hw hf => fN x (cS xa x xc) ww ((hf _ m4) (x,.slice xa x.r.held.length xc) (List.mem_of_getElem? hx)) (by assumption) w.heap.size hw) ?_
 rintro ⟨v8a,v8c⟩
 refine kA [1,4] ⟨?_,?_⟩
 refine ev 1 (.v (.slice A L.length cap)) rfl <| kA [4] <| e5 4 rfl (a5 (a5 (ap rfl (a5 a8)))) (aH (e := 41) (K := 25) (bytes := 208) [.agg (a6 x (cS v8a x v8c)).toArray] (rs := ([((x,.slice v8a x.r.held.length v8c) : CV)] : List CV).map aq) (by rfl) rfl) ?_
 intro g11
 refine kA [5] <| e5 5 rfl (a5 (a5 (ap rfl (a5 a8)))) (aE (e := 41) (K := 25) (bytes := 208) (i := 3) (q := (L ++ ([((x,.slice v8a x.r.held.length v8c) : CV)] : List CV)).length) (new := ([((x,.slice v8a x.r.held.length v8c) : CV)] : List CV).map aq) (rs' := (L ++ ([((x,.slice v8a x.r.held.length v8c) : CV)] : List CV)).map aq) rfl rfl rfl rfl (by kernel_rfl) (by kernel_rfl) (by kernel_rfl) rfl (by simp) (by rw [List.map_append]) (by simp) (fun ww hf => (ax (hf (a9 w.heap.size 41 25 (.slice (some ⟨g11,0,none⟩) 1 1) (([((x,.slice v8a x.r.held.length v8c) : CV)] : List CV).map aq)) (by simp)))) (by intro r hr; simp only [List.map_cons,List.map_nil,List.mem_singleton] at hr; subst hr; exact ⟨rfl,by simp [aq,a6,Value.oneCell']⟩) (by (try simp only [List.length_map,List.length_append,List.length_cons,List.length_nil,List.length_take,List.length_drop,maxLen]); omega) (by (try simp only [List.length_map,List.length_append,List.length_cons,List.length_nil,List.length_take,List.length_drop,maxLen]); omega)) ?_
 rintro ⟨v13a,v13c⟩
 refine d9 [6] [23,22,2,3,11,12,13] 1 [(23,.p 2 0)] <| kA [7] <| dg 7 2 0 [.slice v13a ((L ++ ([((x,.slice v8a x.r.held.length v8c) : CV)] : List CV)).length) v13c] rfl <| kZ ?_
 exact ⟨(v8a,v8c,v13a,v13c,g11),kF 4 0 [2,3,11,12,13]⟩
 refine e5 4 rfl (a5 (a5 (ap rfl (a5 a8)))) (aH (e := 41) (K := 25) (bytes := 208) [.agg (a6 x (cS v8a x v8c)).toArray] (rs := ([((x,.slice v8a x.r.held.length v8c) : CV)] : List CV).map aq) (by rfl) rfl) ?_
 intro g14
 refine kA [1] <| ev 1 (.v (.slice A L.length cap)) rfl <| kA [5] <| e5 5 rfl (a5 (a5 (ap rfl (a5 a8)))) (aE (e := 41) (K := 25) (bytes := 208) (i := 3) (q := (L ++ ([((x,.slice v8a x.r.held.length v8c) : CV)] : List CV)).length) (new := ([((x,.slice v8a x.r.held.length v8c) : CV)] : List CV).map aq) (rs' := (L ++ ([((x,.slice v8a x.r.held.length v8c) : CV)] : List CV)).map aq) rfl rfl rfl rfl (by kernel_rfl) (by kernel_rfl) (by kernel_rfl) rfl (by simp) (by rw [List.map_append]) (by simp) (fun ww hf => (ax (hf (a9 w.heap.size 41 25 (.slice (some ⟨g14,0,none⟩) 1 1) (([((x,.slice v8a x.r.held.length v8c) : CV)] : List CV).map aq)) (by simp)))) (by intro r hr; simp only [List.map_cons,List.map_nil,List.mem_singleton] at hr; subst hr; exact ⟨rfl,by simp [aq,a6,Value.oneCell']⟩) (by (try simp only [List.length_map,List.length_append,List.length_cons,List.length_nil,List.length_take,List.length_drop,maxLen]); omega) (by (try simp only [List.length_map,List.length_append,List.length_cons,List.length_nil,List.length_take,List.length_drop,maxLen]); omega)) ?_
 rintro ⟨v16a,v16c⟩
 refine d9 [6] [23,22,2,3,11,12,13] 1 [(23,.p 2 0)] <| kA [7] <| dg 7 2 0 [.slice v16a ((L ++ ([((x,.slice v8a x.r.held.length v8c) : CV)] : List CV)).length) v16c] rfl <| kZ ?_
 exact ⟨(v8a,v8c,v16a,v16c,g14),kF 4 0 [2,3,11,12,13]⟩
 rintro ⟨v3a,v3c,v7a,v7c,g5⟩
 refine kG <| kRF 2 [2,3,11,12,13] ⟨[(2,.p 1 0),(3,.p 2 0),(11,.v (.slice Atc t.conns.length Ctc)),(12,aI ((t.conns.length : Nat) : Int)),(13,aI (K6.wrap ((i : Int) + 1)))],[⟨27,bk t (.slice Atc t.conns.length Ctc) (.slice Atw t.waiting.length Ctw)⟩,⟨27,[.slice none 0 0,.slice none 0 0]⟩,⟨27,bk { t with conns := (L ++ ([((x,.slice v3a x.r.held.length v3c) : CV)] : List CV)) } (.slice v7a ((L ++ ([((x,.slice v3a x.r.held.length v3c) : CV)] : List CV)).length) v7c) (.slice v1a t.waiting.length v1c)⟩,⟨41,a6 x (cS xa x xc)⟩],[],[a9 w.heap.size 41 25 (.slice v7a ((L ++ ([((x,.slice v3a x.r.held.length v3c) : CV)] : List CV)).length) v7c) ((L ++ ([((x,.slice v3a x.r.held.length v3c) : CV)] : List CV)).map aq),a9 w.heap.size 41 25 (.slice (some ⟨g5,0,none⟩) 1 1) (([((x,.slice v3a x.r.held.length v3c) : CV)] : List CV).map aq),bm w.heap.size (cS v3a x v3c) 2 (x.r.held.map pC),cT w.heap.size L,a9 w.heap.size 32 3 (.slice v1a t.waiting.length v1c) (t.waiting.map a7),aJ (.slice Atc t.conns.length Ctc) 25 (t.conns.map aq),cL t.conns,aJ (.slice Atw t.waiting.length Ctw) 3 (t.waiting.map a7)]⟩ <| cU [2,3,11,12,13] [(13,aI (K6.wrap ((i : Int) + 1)))] [(13,aI ((i : Int) + 1))] (by rw [show (K6.wrap ((i : Int) + 1)) = ((i : Int) + 1) from al (by omega) (by omega)]) (by kernel_rfl) ?_
 refine aW [2,3,11,12,13] [] ?_
 exact ⟨⟨(i + 1,(L ++ ([((x,.slice v3a x.r.held.length v3c) : CV)] : List CV)),v7a,v7c),⟨hlt,pl_snoc HL hx⟩⟩,eW [2,3,0,4,5,6,7] <| (fM (fun _ _ _ _ h => hown_snoc (cs := L) (x := ((x,.slice v3a x.r.held.length v3c) : CV)) h)).trans <| kF 3 0 [2,3,11,12,13],by show (fun (i : Nat) (L : List CV) (A : Option Addr) (cap : Nat) => t.conns.length - i) (i + 1) (L ++ ([((x,.slice v3a x.r.held.length v3c) : CV)] : List CV)) v7a v7c < t.conns.length - i; (dsimp only; omega)⟩
 have h2p := of_decide_eq_false h2
 have hge : i = t.conns.length := by simp at h2; omega
 refine bH <| kQ <| bC [2] [(2,.p 1 0)] 1 ⟨27,bk { t with conns := L } (.slice A L.length cap) (.slice v1a t.waiting.length v1c)⟩ <| kR ?_
 have hmc : pl L = pl t.conns := by exact pl_take_all HL hge
 exact ⟨[.agg (bk { t with conns := L } (.slice A L.length cap) (.slice v1a t.waiting.length v1c)).toArray],by kernel_rfl,fun w' hb hf ha => by exact xo3 (⟨L,hmc⟩,(A,cap),(v1a,v1c)) rfl rfl (pW (hf _ m1) hB) (pH (hf _ m0) hB) (pW (hf _ m2) hB) (Apart.sub3 ha [1,0,2] rfl (by decide) rfl rfl rfl (by exact fun b h => h) (fun b h => eV h) (by exact fun b h => h)) hb⟩
theorem ysPutConn_c (t : Tab) (t_connsV : Value) (t_waitingV : Value) (c : Con) (rV : Value) (l : Lim) (w : World) (hl_t_connsV : Sl w t_connsV 25 (t.conns.map aq)) (hh_t_connsV : ∀ x ∈ t.conns, Sl w x.2 2 (x.1.r.held.map pC)) (hl_t_waitingV : Sl w t_waitingV 3 (t.waiting.map a7)) (hZ : Sl w rV 2 (c.r.held.map pC)) (hfit : ∀ x ∈ t.conns, bW x.1) (hln : t.conns.length ≤ 1048576) (hlw : t.waiting.length ≤ 1048576) (hfc : bW c) (B : Nat) (hB : B ≤ w.heap.size) : Calls Tryz.prog 12 #[.agg (bk t t_connsV t_waitingV).toArray, .agg (a6 c rV).toArray, .agg (bd l).toArray] w fun e w' => XRs w w' e (α := {cs : List CV // pl cs = ga t c l} × (Option Addr × Nat) × (Option Addr × Nat)) (fun y => .tuple #[.agg #[.slice y.2.1.1 y.1.1.length y.2.1.2, .slice y.2.2.1 ((bQ t c l).length) y.2.2.2], .bool (dn t c l)]) (fun y => [a9 B 41 25 (.slice y.2.1.1 y.1.1.length y.2.1.2) (y.1.1.map aq), cT B y.1.1, a9 B 32 3 (.slice y.2.2.1 ((bQ t c l).length) y.2.2.2) ((bQ t c l).map a7)]) := by
 obtain ⟨Atc,Ctc,hvtc⟩ := hl_t_connsV.form
 rw [List.length_map] at hvtc; subst hvtc
 have hntc := hl_t_connsV.len; rw [List.length_map] at hntc
 have hqtc := Sl.capLe hl_t_connsV
 obtain ⟨Atw,Ctw,hvtw⟩ := hl_t_waitingV.form
 rw [List.length_map] at hvtw; subst hvtw
 have hntw := hl_t_waitingV.len; rw [List.length_map] at hntw
 have hqtw := Sl.capLe hl_t_waitingV
 obtain ⟨Z,Y,hY⟩ := hZ.form
 rw [List.length_map] at hY; subst hY
 have hJ := hZ.len; rw [List.length_map] at hJ
 have hqcrh := Sl.capLe hZ
 have hkc := hfc.2.2.1
 refine cn (args := [.agg (bk t (.slice Atc t.conns.length Ctc) (.slice Atw t.waiting.length Ctw)).toArray,.agg (a6 c (cS Z c Y)).toArray,.agg (bd l).toArray]) (fn := Tryz.f12) [aJ (.slice Atc t.conns.length Ctc) 25 (t.conns.map aq),cL t.conns,aJ (.slice Atw t.waiting.length Ctw) 3 (t.waiting.map a7),cH Z c Y] Tryz.func12 rfl Tryz.ntmps12 rfl (by simp only [List.mem_cons,List.not_mem_nil,or_false,forall_eq_or_imp,forall_eq]; exact ⟨⟨rfl,hl_t_connsV⟩,⟨rfl,hh_t_connsV⟩,⟨rfl,hl_t_waitingV⟩,⟨rfl,hZ⟩⟩) ?_
 refine kQ <| cm [3,4,5,6] ⟨[(3,.p 0 0),(4,.p 1 0),(5,.p 2 0),(6,.p 3 0)],[⟨27,bk t (.slice Atc t.conns.length Ctc) (.slice Atw t.waiting.length Ctw)⟩,⟨41,a6 c (cS Z c Y)⟩,⟨43,bd l⟩,⟨27,[.slice none 0 0,.slice none 0 0]⟩],[],[aJ (.slice Atc t.conns.length Ctc) 25 (t.conns.map aq),cL t.conns,aJ (.slice Atw t.waiting.length Ctw) 3 (t.waiting.map a7),cH Z c Y]⟩ <| kQ <| dR 1 [3,4,5,6,9] [(9,.v (.agg (bk t (.slice Atc t.conns.length Ctc) (.slice Atw t.waiting.length Ctw)).toArray))] 32 [.agg (bk t (.slice Atc t.conns.length Ctc) (.slice Atw t.waiting.length Ctw)).toArray] (some 10) rfl (cb fun ww hw hf => yl25Copy_c t (.slice Atc t.conns.length Ctc) (.slice Atw t.waiting.length Ctw) ww (hf _ m0) (hf _ m1) (hf _ m2) (by first | assumption | (dsimp only; assumption)) (by first | assumption | omega | (dsimp only; omega)) (by first | assumption | omega | (dsimp only; omega)) w.heap.size hw) ?_
 rintro ⟨⟨t1l,ht1l⟩,⟨t1a,t1c⟩,⟨t1d,t1e⟩⟩
 dsimp only
 have hfit_t1l : ∀ x ∈ t1l,bW x.1 := fJ ht1l (by assumption)
 have hlen_t1l := pl_len ht1l
 refine gk [3,4,5,6,8] [(8,.p 4 0)] [⟨27,bk { t with conns := t1l } (.slice t1a t1l.length t1c) (.slice t1d t.waiting.length t1e)⟩] <| kS <| ed (α := Option Addr × Nat × Option Addr × Nat × Nat) (fun y => (fun (v2a : Option Addr) (v2c : Nat) (v6a : Option Addr) (v6c : Nat) (g4 : Nat) => (⟨[(3,.p 0 0),(4,.p 1 0),(5,.p 2 0),(6,.p 3 0),(8,.p 4 0)],[⟨27,bk t (.slice Atc t.conns.length Ctc) (.slice Atw t.waiting.length Ctw)⟩,⟨41,a6 c (cS Z c Y)⟩,⟨43,bd l⟩,⟨27,[.slice none 0 0,.slice none 0 0]⟩,⟨27,bk { t with conns := (t1l ++ ([((c,.slice v2a c.r.held.length v2c) : CV)] : List CV)) } (.slice v6a ((t1l ++ ([((c,.slice v2a c.r.held.length v2c) : CV)] : List CV)).length) v6c) (.slice t1d t.waiting.length t1e)⟩],[],[a9 w.heap.size 41 25 (.slice v6a ((t1l ++ ([((c,.slice v2a c.r.held.length v2c) : CV)] : List CV)).length) v6c) ((t1l ++ ([((c,.slice v2a c.r.held.length v2c) : CV)] : List CV)).map aq),a9 w.heap.size 41 25 (.slice (some ⟨g4,0,none⟩) 1 1) (([((c,.slice v2a c.r.held.length v2c) : CV)] : List CV).map aq),bm w.heap.size (cS v2a c v2c) 2 (c.r.held.map pC),cT w.heap.size t1l,a9 w.heap.size 32 3 (.slice t1d t.waiting.length t1e) (t.waiting.map a7),aJ (.slice Atc t.conns.length Ctc) 25 (t.conns.map aq),cL t.conns,aJ (.slice Atw t.waiting.length Ctw) 3 (t.waiting.map a7),cH Z c Y]⟩ : St)) y.1 y.2.1 y.2.2.1 y.2.2.2.1 y.2.2.2.2) ?_ ?_
 refine bo [true,true,true,true,false] (by kernel_rfl) (fun ρ σ => ?_)
 refine d9 [0,2] [13,11,3,4,5,6,8] 6 [(13,.v (.agg (a6 c (cS Z c Y)).toArray)),(11,.p 4 0)] <| kA [1,3] ⟨?_,?_⟩
 refine ev 1 (.v (.slice t1a t1l.length t1c)) rfl <| kA [3] <| du 3 28 [.agg (a6 c (cS Z c Y)).toArray] (some 14) rfl (cb fun ww hw hf => d2 c (cS Z c Y) ww (hf _ m6) (by assumption) w.heap.size hw) ?_
 rintro ⟨v2a,v2c⟩
 refine kA [4] <| e5 4 rfl (a5 (a5 (a5 (a5 (ap rfl a8))))) (aH (e := 41) (K := 25) (bytes := 208) [.agg (a6 c (cS v2a c v2c)).toArray] (rs := ([((c,.slice v2a c.r.held.length v2c) : CV)] : List CV).map aq) (by rfl) rfl) ?_
 intro g4
 refine kA [5] <| e5 5 rfl (a5 (a5 (a5 (a5 (ap rfl a8))))) (aE (e := 41) (K := 25) (bytes := 208) (i := 2) (q := (t1l ++ ([((c,.slice v2a c.r.held.length v2c) : CV)] : List CV)).length) (new := ([((c,.slice v2a c.r.held.length v2c) : CV)] : List CV).map aq) (rs' := (t1l ++ ([((c,.slice v2a c.r.held.length v2c) : CV)] : List CV)).map aq) rfl rfl rfl rfl (by kernel_rfl) (by kernel_rfl) (by kernel_rfl) rfl (by simp) (by rw [List.map_append]) (by simp) (fun ww hf => (ax (hf (a9 w.heap.size 41 25 (.slice (some ⟨g4,0,none⟩) 1 1) (([((c,.slice v2a c.r.held.length v2c) : CV)] : List CV).map aq)) (by simp)))) (by intro r hr; simp only [List.map_cons,List.map_nil,List.mem_singleton] at hr; subst hr; exact ⟨rfl,by simp [aq,a6,Value.oneCell']⟩) (by (try simp only [List.length_map,List.length_append,List.length_cons,List.length_nil,List.length_take,List.length_drop,maxLen]); omega) (by (try simp only [List.length_map,List.length_append,List.length_cons,List.length_nil,List.length_take,List.length_drop,maxLen]); omega)) ?_
 rintro ⟨v6a,v6c⟩
 refine d9 [6] [17,16,3,4,5,6,8] 1 [(17,.p 4 0)] <| kA [7] <| dg 7 4 0 [.slice v6a ((t1l ++ ([((c,.slice v2a c.r.held.length v2c) : CV)] : List CV)).length) v6c] rfl <| kZ ?_
 exact ⟨(v2a,v2c,v6a,v6c,g4),kF 5 0 [3,4,5,6,8]⟩
 refine du 3 28 [.agg (a6 c (cS Z c Y)).toArray] (some 14) rfl (cb fun ww hw hf => d2 c (cS Z c Y) ww (hf _ m6) (by assumption) w.heap.size hw) ?_
 rintro ⟨v7a,v7c⟩
 refine kA [1,4] ⟨?_,?_⟩
 refine ev 1 (.v (.slice t1a t1l.length t1c)) rfl <| kA [4] <| e5 4 rfl (a5 (a5 (a5 (a5 (ap rfl a8))))) (aH (e := 41) (K := 25) (bytes := 208) [.agg (a6 c (cS v7a c v7c)).toArray] (rs := ([((c,.slice v7a c.r.held.length v7c) : CV)] : List CV).map aq) (by rfl) rfl) ?_
 intro g10
 refine kA [5] <| e5 5 rfl (a5 (a5 (a5 (a5 (ap rfl a8))))) (aE (e := 41) (K := 25) (bytes := 208) (i := 2) (q := (t1l ++ ([((c,.slice v7a c.r.held.length v7c) : CV)] : List CV)).length) (new := ([((c,.slice v7a c.r.held.length v7c) : CV)] : List CV).map aq) (rs' := (t1l ++ ([((c,.slice v7a c.r.held.length v7c) : CV)] : List CV)).map aq) rfl rfl rfl rfl (by kernel_rfl) (by kernel_rfl) (by kernel_rfl) rfl (by simp) (by rw [List.map_append]) (by simp) (fun ww hf => (ax (hf (a9 w.heap.size 41 25 (.slice (some ⟨g10,0,none⟩) 1 1) (([((c,.slice v7a c.r.held.length v7c) : CV)] : List CV).map aq)) (by simp)))) (by intro r hr; simp only [List.map_cons,List.map_nil,List.mem_singleton] at hr; subst hr; exact ⟨rfl,by simp [aq,a6,Value.oneCell']⟩) (by (try simp only [List.length_map,List.length_append,List.length_cons,List.length_nil,List.length_take,List.length_drop,maxLen]); omega) (by (try simp only [List.length_map,List.length_append,List.length_cons,List.length_nil,List.length_take,List.length_drop,maxLen]); omega)) ?_
 rintro ⟨v12a,v12c⟩
 refine d9 [6] [17,16,3,4,5,6,8] 1 [(17,.p 4 0)] <| kA [7] <| dg 7 4 0 [.slice v12a ((t1l ++ ([((c,.slice v7a c.r.held.length v7c) : CV)] : List CV)).length) v12c] rfl <| kZ ?_
 exact ⟨(v7a,v7c,v12a,v12c,g10),kF 5 0 [3,4,5,6,8]⟩
 refine e5 4 rfl (a5 (a5 (a5 (a5 (ap rfl a8))))) (aH (e := 41) (K := 25) (bytes := 208) [.agg (a6 c (cS v7a c v7c)).toArray] (rs := ([((c,.slice v7a c.r.held.length v7c) : CV)] : List CV).map aq) (by rfl) rfl) ?_
 intro g13
 refine kA [1] <| ev 1 (.v (.slice t1a t1l.length t1c)) rfl <| kA [5] <| e5 5 rfl (a5 (a5 (a5 (a5 (ap rfl a8))))) (aE (e := 41) (K := 25) (bytes := 208) (i := 2) (q := (t1l ++ ([((c,.slice v7a c.r.held.length v7c) : CV)] : List CV)).length) (new := ([((c,.slice v7a c.r.held.length v7c) : CV)] : List CV).map aq) (rs' := (t1l ++ ([((c,.slice v7a c.r.held.length v7c) : CV)] : List CV)).map aq) rfl rfl rfl rfl (by kernel_rfl) (by kernel_rfl) (by kernel_rfl) rfl (by simp) (by rw [List.map_append]) (by simp) (fun ww hf => (ax (hf (a9 w.heap.size 41 25 (.slice (some ⟨g13,0,none⟩) 1 1) (([((c,.slice v7a c.r.held.length v7c) : CV)] : List CV).map aq)) (by simp)))) (by intro r hr; simp only [List.map_cons,List.map_nil,List.mem_singleton] at hr; subst hr; exact ⟨rfl,by simp [aq,a6,Value.oneCell']⟩) (by (try simp only [List.length_map,List.length_append,List.length_cons,List.length_nil,List.length_take,List.length_drop,maxLen]); omega) (by (try simp only [List.length_map,List.length_append,List.length_cons,List.length_nil,List.length_take,List.length_drop,maxLen]); omega)) ?_
 rintro ⟨v15a,v15c⟩
 refine d9 [6] [17,16,3,4,5,6,8] 1 [(17,.p 4 0)] <| kA [7] <| dg 7 4 0 [.slice v15a ((t1l ++ ([((c,.slice v7a c.r.held.length v7c) : CV)] : List CV)).length) v15c] rfl <| kZ ?_
 exact ⟨(v7a,v7c,v15a,v15c,g13),kF 5 0 [3,4,5,6,8]⟩
 rintro ⟨v2a,v2c,v6a,v6c,g4⟩
 refine kQ <| xl_hv 4 [3,5,6,8,19,21] ⟨[(3,.p 0 0),(5,.p 2 0),(6,.p 3 0),(8,.p 4 0),(19,.v (.slice t1d t.waiting.length t1e)),(21,.v (.agg (bX c.t).toArray))],[⟨27,bk t (.slice Atc t.conns.length Ctc) (.slice Atw t.waiting.length Ctw)⟩,⟨41,a6 c (cS Z c Y)⟩,⟨43,bd l⟩,⟨27,[.slice none 0 0,.slice none 0 0]⟩,⟨27,bk { t with conns := (t1l ++ ([((c,.slice v2a c.r.held.length v2c) : CV)] : List CV)) } (.slice v6a ((t1l ++ ([((c,.slice v2a c.r.held.length v2c) : CV)] : List CV)).length) v6c) (.slice t1d t.waiting.length t1e)⟩],[],[a9 w.heap.size 41 25 (.slice v6a ((t1l ++ ([((c,.slice v2a c.r.held.length v2c) : CV)] : List CV)).length) v6c) ((t1l ++ ([((c,.slice v2a c.r.held.length v2c) : CV)] : List CV)).map aq),a9 w.heap.size 41 25 (.slice (some ⟨g4,0,none⟩) 1 1) (([((c,.slice v2a c.r.held.length v2c) : CV)] : List CV).map aq),bm w.heap.size (cS v2a c v2c) 2 (c.r.held.map pC),cT w.heap.size t1l,a9 w.heap.size 32 3 (.slice t1d t.waiting.length t1e) (t.waiting.map a7),aJ (.slice Atc t.conns.length Ctc) 25 (t.conns.map aq),cL t.conns,aJ (.slice Atw t.waiting.length Ctw) 3 (t.waiting.map a7),cH Z c Y]⟩ (by kernel_rfl) rfl (by kernel_rfl) rfl (by kernel_rfl) (aH (e := 32) (K := 3) (bytes := 24) [.agg (bX c.t).toArray] (rs := ([c.t] : List Tup).map a7) rfl rfl) ?_
 intro g16
 refine kHD 0 [3,5,6,8,19,22] [] rfl (aE (e := 32) (K := 3) (bytes := 24) (i := 5) (q := (t.waiting ++ ([c.t] : List Tup)).length) (new := ([c.t] : List Tup).map a7) (rs' := (t.waiting ++ ([c.t] : List Tup)).map a7) rfl rfl rfl rfl (by kernel_rfl) (by kernel_rfl) (by kernel_rfl) rfl (by simp) (by rw [List.map_append]) (by simp) (fun ww hf => (ax (hf (a9 w.heap.size 32 3 (.slice (some ⟨g16,0,none⟩) 1 1) (([c.t] : List Tup).map a7)) (by simp)))) (by intro r hr; obtain ⟨x,hx,rfl⟩ := List.mem_map.1 hr; exact ⟨rfl,by simp [a7,Value.oneCell']⟩) (by (try simp only [List.length_map,List.length_append,List.length_cons,List.length_nil,List.length_take,List.length_drop,maxLen]); omega) (by (try simp only [List.length_map,List.length_append,List.length_cons,List.length_nil,List.length_take,List.length_drop,maxLen]); omega)) ?_
 rintro ⟨v17a,v17c⟩
 refine bC [3,5,6,8] [] 4 ⟨27,[.slice v6a ((t1l ++ ([((c,.slice v2a c.r.held.length v2c) : CV)] : List CV)).length) v6c,.slice v17a ((t.waiting ++ ([c.t] : List Tup)).length) v17c]⟩ <| kS <| kS <| xw_wk ((gj [4,5,0,1,2,3,6,7,8,9] [bm w.heap.size (cS v2a c v2c) 2 (c.r.held.map pC),cT w.heap.size t1l,a9 w.heap.size 32 3 (.slice v17a ((t.waiting ++ ([c.t] : List Tup)).length) v17c) ((t.waiting ++ ([c.t] : List Tup)).map a7),a9 w.heap.size 32 3 (.slice (some ⟨g16,0,none⟩) 1 1) (([c.t] : List Tup).map a7),a9 w.heap.size 41 25 (.slice v6a ((t1l ++ ([((c,.slice v2a c.r.held.length v2c) : CV)] : List CV)).length) v6c) ((t1l ++ ([((c,.slice v2a c.r.held.length v2c) : CV)] : List CV)).map aq),a9 w.heap.size 41 25 (.slice (some ⟨g4,0,none⟩) 1 1) (([((c,.slice v2a c.r.held.length v2c) : CV)] : List CV).map aq),aJ (.slice Atc t.conns.length Ctc) 25 (t.conns.map aq),cL t.conns,aJ (.slice Atw t.waiting.length Ctw) 3 (t.waiting.map a7),cH Z c Y] (by kernel_rfl) (by kernel_rfl)).trans (fM (fun _ _ _ _ h => hown_snoc (cs := t1l) (x := ((c,.slice v2a c.r.held.length v2c) : CV)) h))) ?_
 have hfn := fit_snoc (L := t1l) (c := c) (v := .slice v2a c.r.held.length v2c) hfit_t1l hfc
 have hpo := put_ok (t := t) (c := c) (l := l) (L := t1l) (v := .slice v2a c.r.held.length v2c) (W := (t.waiting ++ ([c.t] : List Tup))) ht1l rfl
 refine kG <| kCF 2 [3,6,8,25,26] ⟨[(3,.p 0 0),(6,.p 3 0),(8,.p 4 0),(25,.v (.agg #[.slice v6a ((t1l ++ ([((c,.slice v2a c.r.held.length v2c) : CV)] : List CV)).length) v6c,.slice v17a ((t.waiting ++ ([c.t] : List Tup)).length) v17c])),(26,.v (.agg (bd l).toArray))],[⟨27,bk t (.slice Atc t.conns.length Ctc) (.slice Atw t.waiting.length Ctw)⟩,⟨41,a6 c (cS Z c Y)⟩,⟨43,bd l⟩,⟨27,[.slice none 0 0,.slice none 0 0]⟩,⟨27,[.slice v6a ((t1l ++ ([((c,.slice v2a c.r.held.length v2c) : CV)] : List CV)).length) v6c,.slice v17a ((t.waiting ++ ([c.t] : List Tup)).length) v17c]⟩],[],[cT w.heap.size (t1l ++ ([((c,.slice v2a c.r.held.length v2c) : CV)] : List CV)),a9 w.heap.size 32 3 (.slice v17a ((t.waiting ++ ([c.t] : List Tup)).length) v17c) ((t.waiting ++ ([c.t] : List Tup)).map a7),a9 w.heap.size 32 3 (.slice (some ⟨g16,0,none⟩) 1 1) (([c.t] : List Tup).map a7),a9 w.heap.size 41 25 (.slice v6a ((t1l ++ ([((c,.slice v2a c.r.held.length v2c) : CV)] : List CV)).length) v6c) ((t1l ++ ([((c,.slice v2a c.r.held.length v2c) : CV)] : List CV)).map aq),a9 w.heap.size 41 25 (.slice (some ⟨g4,0,none⟩) 1 1) (([((c,.slice v2a c.r.held.length v2c) : CV)] : List CV).map aq),aJ (.slice Atc t.conns.length Ctc) 25 (t.conns.map aq),cL t.conns,aJ (.slice Atw t.waiting.length Ctw) 3 (t.waiting.map a7),cH Z c Y]⟩ 14 [.agg #[.slice v6a ((t1l ++ ([((c,.slice v2a c.r.held.length v2c) : CV)] : List CV)).length) v6c,.slice v17a ((t.waiting ++ ([c.t] : List Tup)).length) v17c],.agg (bd l).toArray] (some 27) rfl (aA fun ww hf => ysTableOk_c (⟨(t1l ++ ([((c,.slice v2a c.r.held.length v2c) : CV)] : List CV)),(t.waiting ++ ([c.t] : List Tup))⟩) (.slice v6a ((t1l ++ ([((c,.slice v2a c.r.held.length v2c) : CV)] : List CV)).length) v6c) (.slice v17a ((t.waiting ++ ([c.t] : List Tup)).length) v17c) l ww (ax (hf _ m3)) (ew (hf _ m0)) (ax (hf _ m1)) (by assumption)) ?_
 intro _
 refine aW [3,6,8,28] [(28,aB (!(bp (⟨(t1l ++ ([((c,.slice v2a c.r.held.length v2c) : CV)] : List CV)),(t.waiting ++ ([c.t] : List Tup))⟩) l)))] <| kC (!(bp (⟨(t1l ++ ([((c,.slice v2a c.r.held.length v2c) : CV)] : List CV)),(t.waiting ++ ([c.t] : List Tup))⟩) l)) (fun h18 => ?_) (fun h18 => ?_)
 have h18n := bS h18
 have hpv : dn t c l = false := hpo.symm.trans h18n
 refine kQ <| dR 1 [6,29] [(29,.v (.agg (bk t (.slice Atc t.conns.length Ctc) (.slice Atw t.waiting.length Ctw)).toArray))] 32 [.agg (bk t (.slice Atc t.conns.length Ctc) (.slice Atw t.waiting.length Ctw)).toArray] (some 30) rfl (cb fun ww hw hf => yl25Copy_c t (.slice Atc t.conns.length Ctc) (.slice Atw t.waiting.length Ctw) ww (hf _ m5) (hf _ m6) (hf _ m7) (by first | assumption | (dsimp only; assumption)) (by first | assumption | omega | (dsimp only; omega)) (by first | assumption | omega | (dsimp only; omega)) w.heap.size hw) ?_
 rintro ⟨⟨t19l,ht19l⟩,⟨t19a,t19c⟩,⟨t19d,t19e⟩⟩
 dsimp only
 have hfit_t19l : ∀ x ∈ t19l,bW x.1 := fJ ht19l (by assumption)
 have hlen_t19l := pl_len ht19l
 refine bC [6,7] [(7,aB false)] 3 ⟨27,bk { t with conns := t19l } (.slice t19a t19l.length t19c) (.slice t19d t.waiting.length t19e)⟩ <| kR ?_
 have hmc : pl t19l = ga t c l := by unfold ga; rw [hpv,if_neg (by decide),ht19l]
 have hmw : (bQ t c l) = t.waiting := by unfold bQ; rw [hpv]; rfl
 have hm0 : (dn t c l) = false := by exact hpv
 exact ⟨[.agg (bk { t with conns := t19l } (.slice t19a t19l.length t19c) (.slice t19d t.waiting.length t19e)).toArray,.bool false],by kernel_rfl,fun w' hb hf ha => by rw [hmw,hm0]; exact xo3 (⟨t19l,hmc⟩,(t19a,t19c),(t19d,t19e)) rfl rfl (pW (hf _ m0) hB) (pH (hf _ m1) hB) (pW (hf _ m2) hB) (Apart.sub3 ha [0,1,2] rfl (by decide) rfl rfl rfl (by exact fun b h => h) (fun b h => eV h) (by exact fun b h => h)) hb⟩
 have h18n := aF h18
 have hpv : dn t c l = true := hpo.symm.trans h18n
 refine kK <| kQ <| bC [6,7] [(7,aB true)] 3 ⟨27,[.slice v6a ((t1l ++ ([((c,.slice v2a c.r.held.length v2c) : CV)] : List CV)).length) v6c,.slice v17a ((t.waiting ++ ([c.t] : List Tup)).length) v17c]⟩ <| kR ?_
 have hmc : pl (t1l ++ ([((c,.slice v2a c.r.held.length v2c) : CV)] : List CV)) = ga t c l := by unfold ga; rw [hpv,if_pos rfl,pl_snocc,ht1l]
 have hmw : (bQ t c l) = (t.waiting ++ ([c.t] : List Tup)) := by unfold bQ; rw [hpv]; rfl
 have hm0 : (dn t c l) = true := by exact hpv
 exact ⟨[.agg #[.slice v6a ((t1l ++ ([((c,.slice v2a c.r.held.length v2c) : CV)] : List CV)).length) v6c,.slice v17a ((t.waiting ++ ([c.t] : List Tup)).length) v17c],.bool true],by kernel_rfl,fun w' hb hf ha => by rw [hmw,hm0]; exact xo3 (⟨(t1l ++ ([((c,.slice v2a c.r.held.length v2c) : CV)] : List CV)),hmc⟩,(v6a,v6c),(v17a,v17c)) rfl rfl (pW (hf _ m3) hB) (pH (hf _ m0) hB) (pW (hf _ m1) hB) (Apart.sub3 ha [3,0,1] rfl (by decide) rfl rfl rfl (by exact fun b h => h) (fun b h => eV h) (by exact fun b h => h)) hb⟩
theorem yiPutConn_c (t : Tab) (t_connsV : Value) (t_waitingV : Value) (c : Con) (rV : Value) (l : Lim) (w : World) (hl_t_connsV : Sl w t_connsV 25 (t.conns.map aq)) (hh_t_connsV : ∀ x ∈ t.conns, Sl w x.2 2 (x.1.r.held.map pC)) (hl_t_waitingV : Sl w t_waitingV 3 (t.waiting.map a7)) (hZ : Sl w rV 2 (c.r.held.map pC)) (hfit : ∀ x ∈ t.conns, bW x.1) (hln : t.conns.length ≤ 1048576) (hlw : t.waiting.length ≤ 1048576) (hfc : bW c) (B : Nat) (hB : B ≤ w.heap.size) : Calls Tryz.prog 11 #[.agg (bk t t_connsV t_waitingV).toArray, .agg (a6 c rV).toArray, .agg (bd l).toArray] w fun e w' => XRs w w' e (α := {cs : List CV // pl cs = ga t c l} × (Option Addr × Nat) × (Option Addr × Nat)) (fun y => .tuple #[.agg #[.slice y.2.1.1 y.1.1.length y.2.1.2, .slice y.2.2.1 ((bQ t c l).length) y.2.2.2], .bool (dn t c l)]) (fun y => [a9 B 41 25 (.slice y.2.1.1 y.1.1.length y.2.1.2) (y.1.1.map aq), cT B y.1.1, a9 B 32 3 (.slice y.2.2.1 ((bQ t c l).length) y.2.2.2) ((bQ t c l).map a7)]) := by
 obtain ⟨Atc,Ctc,hvtc⟩ := hl_t_connsV.form
 rw [List.length_map] at hvtc; subst hvtc
 have hntc := hl_t_connsV.len; rw [List.length_map] at hntc
 have hqtc := Sl.capLe hl_t_connsV
 obtain ⟨Atw,Ctw,hvtw⟩ := hl_t_waitingV.form
 rw [List.length_map] at hvtw; subst hvtw
 have hntw := hl_t_waitingV.len; rw [List.length_map] at hntw
 have hqtw := Sl.capLe hl_t_waitingV
 obtain ⟨Z,Y,hY⟩ := hZ.form
 rw [List.length_map] at hY; subst hY
 have hJ := hZ.len; rw [List.length_map] at hJ
 have hqcrh := Sl.capLe hZ
 have hkc := hfc.2.2.1
 refine cn (args := [.agg (bk t (.slice Atc t.conns.length Ctc) (.slice Atw t.waiting.length Ctw)).toArray,.agg (a6 c (cS Z c Y)).toArray,.agg (bd l).toArray]) (fn := Tryz.f11) [aJ (.slice Atc t.conns.length Ctc) 25 (t.conns.map aq),cL t.conns,aJ (.slice Atw t.waiting.length Ctw) 3 (t.waiting.map a7),cH Z c Y] Tryz.func11 rfl Tryz.ntmps11 rfl (by simp only [List.mem_cons,List.not_mem_nil,or_false,forall_eq_or_imp,forall_eq]; exact ⟨⟨rfl,hl_t_connsV⟩,⟨rfl,hh_t_connsV⟩,⟨rfl,hl_t_waitingV⟩,⟨rfl,hZ⟩⟩) ?_
 refine kQ <| cm [3,4,5,6] ⟨[(3,.p 0 0),(4,.p 1 0),(5,.p 2 0),(6,.p 3 0)],[⟨27,bk t (.slice Atc t.conns.length Ctc) (.slice Atw t.waiting.length Ctw)⟩,⟨41,a6 c (cS Z c Y)⟩,⟨43,bd l⟩,⟨27,[.slice none 0 0,.slice none 0 0]⟩],[],[aJ (.slice Atc t.conns.length Ctc) 25 (t.conns.map aq),cL t.conns,aJ (.slice Atw t.waiting.length Ctw) 3 (t.waiting.map a7),cH Z c Y]⟩ <| kQ <| dR 1 [3,4,5,6,9] [(9,.v (.agg (bk t (.slice Atc t.conns.length Ctc) (.slice Atw t.waiting.length Ctw)).toArray))] 21 [.agg (bk t (.slice Atc t.conns.length Ctc) (.slice Atw t.waiting.length Ctw)).toArray] (some 10) rfl (cb fun ww hw hf => ycloneTable_c t (.slice Atc t.conns.length Ctc) (.slice Atw t.waiting.length Ctw) ww (hf _ m0) (hf _ m1) (hf _ m2) (by first | assumption | (dsimp only; assumption)) (by first | assumption | omega | (dsimp only; omega)) (by first | assumption | omega | (dsimp only; omega)) w.heap.size hw) ?_
 rintro ⟨⟨t1l,ht1l⟩,⟨t1a,t1c⟩,⟨t1d,t1e⟩⟩
 dsimp only
 have hfit_t1l : ∀ x ∈ t1l,bW x.1 := fJ ht1l (by assumption)
 have hlen_t1l := pl_len ht1l
 refine gk [3,4,5,6,8] [(8,.p 4 0)] [⟨27,bk { t with conns := t1l } (.slice t1a t1l.length t1c) (.slice t1d t.waiting.length t1e)⟩] <| kS <| ed (α := Option Addr × Nat × Option Addr × Nat × Nat) (fun y => (fun (v2a : Option Addr) (v2c : Nat) (v6a : Option Addr) (v6c : Nat) (g4 : Nat) => (⟨[(3,.p 0 0),(4,.p 1 0),(5,.p 2 0),(6,.p 3 0),(8,.p 4 0)],[⟨27,bk t (.slice Atc t.conns.length Ctc) (.slice Atw t.waiting.length Ctw)⟩,⟨41,a6 c (cS Z c Y)⟩,⟨43,bd l⟩,⟨27,[.slice none 0 0,.slice none 0 0]⟩,⟨27,bk { t with conns := (t1l ++ ([((c,.slice v2a c.r.held.length v2c) : CV)] : List CV)) } (.slice v6a ((t1l ++ ([((c,.slice v2a c.r.held.length v2c) : CV)] : List CV)).length) v6c) (.slice t1d t.waiting.length t1e)⟩],[],[a9 w.heap.size 41 25 (.slice v6a ((t1l ++ ([((c,.slice v2a c.r.held.length v2c) : CV)] : List CV)).length) v6c) ((t1l ++ ([((c,.slice v2a c.r.held.length v2c) : CV)] : List CV)).map aq),a9 w.heap.size 41 25 (.slice (some ⟨g4,0,none⟩) 1 1) (([((c,.slice v2a c.r.held.length v2c) : CV)] : List CV).map aq),bm w.heap.size (cS v2a c v2c) 2 (c.r.held.map pC),cT w.heap.size t1l,a9 w.heap.size 32 3 (.slice t1d t.waiting.length t1e) (t.waiting.map a7),aJ (.slice Atc t.conns.length Ctc) 25 (t.conns.map aq),cL t.conns,aJ (.slice Atw t.waiting.length Ctw) 3 (t.waiting.map a7),cH Z c Y]⟩ : St)) y.1 y.2.1 y.2.2.1 y.2.2.2.1 y.2.2.2.2) ?_ ?_
 refine bo [true,true,true,true,false] (by kernel_rfl) (fun ρ σ => ?_)
 refine d9 [0,2] [13,11,3,4,5,6,8] 6 [(13,.v (.agg (a6 c (cS Z c Y)).toArray)),(11,.p 4 0)] <| kA [1,3] ⟨?_,?_⟩
 refine ev 1 (.v (.slice t1a t1l.length t1c)) rfl <| kA [3] <| du 3 31 [.agg (a6 c (cS Z c Y)).toArray] (some 14) rfl (cb fun ww hw hf => fN c (cS Z c Y) ww (hf _ m6) (by assumption) w.heap.size hw) ?_
 rintro ⟨v2a,v2c⟩
 refine kA [4] <| e5 4 rfl (a5 (a5 (a5 (a5 (ap rfl a8))))) (aH (e := 41) (K := 25) (bytes := 208) [.agg (a6 c (cS v2a c v2c)).toArray] (rs := ([((c,.slice v2a c.r.held.length v2c) : CV)] : List CV).map aq) (by rfl) rfl) ?_
 intro g4
 refine kA [5] <| e5 5 rfl (a5 (a5 (a5 (a5 (ap rfl a8))))) (aE (e := 41) (K := 25) (bytes := 208) (i := 2) (q := (t1l ++ ([((c,.slice v2a c.r.held.length v2c) : CV)] : List CV)).length) (new := ([((c,.slice v2a c.r.held.length v2c) : CV)] : List CV).map aq) (rs' := (t1l ++ ([((c,.slice v2a c.r.held.length v2c) : CV)] : List CV)).map aq) rfl rfl rfl rfl (by kernel_rfl) (by kernel_rfl) (by kernel_rfl) rfl (by simp) (by rw [List.map_append]) (by simp) (fun ww hf => (ax (hf (a9 w.heap.size 41 25 (.slice (some ⟨g4,0,none⟩) 1 1) (([((c,.slice v2a c.r.held.length v2c) : CV)] : List CV).map aq)) (by simp)))) (by intro r hr; simp only [List.map_cons,List.map_nil,List.mem_singleton] at hr; subst hr; exact ⟨rfl,by simp [aq,a6,Value.oneCell']⟩) (by (try simp only [List.length_map,List.length_append,List.length_cons,List.length_nil,List.length_take,List.length_drop,maxLen]); omega) (by (try simp only [List.length_map,List.length_append,List.length_cons,List.length_nil,List.length_take,List.length_drop,maxLen]); omega)) ?_
 rintro ⟨v6a,v6c⟩
 refine d9 [6] [17,16,3,4,5,6,8] 1 [(17,.p 4 0)] <| kA [7] <| dg 7 4 0 [.slice v6a ((t1l ++ ([((c,.slice v2a c.r.held.length v2c) : CV)] : List CV)).length) v6c] rfl <| kZ ?_
 exact ⟨(v2a,v2c,v6a,v6c,g4),kF 5 0 [3,4,5,6,8]⟩
 refine du 3 31 [.agg (a6 c (cS Z c Y)).toArray] (some 14) rfl (cb fun ww hw hf => fN c (cS Z c Y) ww (hf _ m6) (by assumption) w.heap.size hw) ?_
 rintro ⟨v7a,v7c⟩
 refine kA [1,4] ⟨?_,?_⟩
 refine ev 1 (.v (.slice t1a t1l.length t1c)) rfl <| kA [4] <| e5 4 rfl (a5 (a5 (a5 (a5 (ap rfl a8))))) (aH (e := 41) (K := 25) (bytes := 208) [.agg (a6 c (cS v7a c v7c)).toArray] (rs := ([((c,.slice v7a c.r.held.length v7c) : CV)] : List CV).map aq) (by rfl) rfl) ?_
 intro g10
 refine kA [5] <| e5 5 rfl (a5 (a5 (a5 (a5 (ap rfl a8))))) (aE (e := 41) (K := 25) (bytes := 208) (i := 2) (q := (t1l ++ ([((c,.slice v7a c.r.held.length v7c) : CV)] : List CV)).length) (new := ([((c,.slice v7a c.r.held.length v7c) : CV)] : List CV).map aq) (rs' := (t1l ++ ([((c,.slice v7a c.r.held.length v7c) : CV)] : List CV)).map aq) rfl rfl rfl rfl (by kernel_rfl) (by kernel_rfl) (by kernel_rfl) rfl (by simp) (by rw [List.map_append]) (by simp) (fun ww hf => (ax (hf (a9 w.heap.size 41 25 (.slice (some ⟨g10,0,none⟩) 1 1) (([((c,.slice v7a c.r.held.length v7c) : CV)] : List CV).map aq)) (by simp)))) (by intro r hr; simp only [List.map_cons,List.map_nil,List.mem_singleton] at hr; subst hr; exact ⟨rfl,by simp [aq,a6,Value.oneCell']⟩) (by (try simp only [List.length_map,List.length_append,List.length_cons,List.length_nil,List.length_take,List.length_drop,maxLen]); omega) (by (try simp only [List.length_map,List.length_append,List.length_cons,List.length_nil,List.length_take,List.length_drop,maxLen]); omega)) ?_
 rintro ⟨v12a,v12c⟩
 refine d9 [6] [17,16,3,4,5,6,8] 1 [(17,.p 4 0)] <| kA [7] <| dg 7 4 0 [.slice v12a ((t1l ++ ([((c,.slice v7a c.r.held.length v7c) : CV)] : List CV)).length) v12c] rfl <| kZ ?_
 exact ⟨(v7a,v7c,v12a,v12c,g10),kF 5 0 [3,4,5,6,8]⟩
 refine e5 4 rfl (a5 (a5 (a5 (a5 (ap rfl a8))))) (aH (e := 41) (K := 25) (bytes := 208) [.agg (a6 c (cS v7a c v7c)).toArray] (rs := ([((c,.slice v7a c.r.held.length v7c) : CV)] : List CV).map aq) (by rfl) rfl) ?_
 intro g13
 refine kA [1] <| ev 1 (.v (.slice t1a t1l.length t1c)) rfl <| kA [5] <| e5 5 rfl (a5 (a5 (a5 (a5 (ap rfl a8))))) (aE (e := 41) (K := 25) (bytes := 208) (i := 2) (q := (t1l ++ ([((c,.slice v7a c.r.held.length v7c) : CV)] : List CV)).length) (new := ([((c,.slice v7a c.r.held.length v7c) : CV)] : List CV).map aq) (rs' := (t1l ++ ([((c,.slice v7a c.r.held.length v7c) : CV)] : List CV)).map aq) rfl rfl rfl rfl (by kernel_rfl) (by kernel_rfl) (by kernel_rfl) rfl (by simp) (by rw [List.map_append]) (by simp) (fun ww hf => (ax (hf (a9 w.heap.size 41 25 (.slice (some ⟨g13,0,none⟩) 1 1) (([((c,.slice v7a c.r.held.length v7c) : CV)] : List CV).map aq)) (by simp)))) (by intro r hr; simp only [List.map_cons,List.map_nil,List.mem_singleton] at hr; subst hr; exact ⟨rfl,by simp [aq,a6,Value.oneCell']⟩) (by (try simp only [List.length_map,List.length_append,List.length_cons,List.length_nil,List.length_take,List.length_drop,maxLen]); omega) (by (try simp only [List.length_map,List.length_append,List.length_cons,List.length_nil,List.length_take,List.length_drop,maxLen]); omega)) ?_
 rintro ⟨v15a,v15c⟩
 refine d9 [6] [17,16,3,4,5,6,8] 1 [(17,.p 4 0)] <| kA [7] <| dg 7 4 0 [.slice v15a ((t1l ++ ([((c,.slice v7a c.r.held.length v7c) : CV)] : List CV)).length) v15c] rfl <| kZ ?_
 exact ⟨(v7a,v7c,v15a,v15c,g13),kF 5 0 [3,4,5,6,8]⟩
 rintro ⟨v2a,v2c,v6a,v6c,g4⟩
 refine kQ <| xl_hv 4 [3,5,6,8,19,21] ⟨[(3,.p 0 0),(5,.p 2 0),(6,.p 3 0),(8,.p 4 0),(19,.v (.slice t1d t.waiting.length t1e)),(21,.v (.agg (bX c.t).toArray))],[⟨27,bk t (.slice Atc t.conns.length Ctc) (.slice Atw t.waiting.length Ctw)⟩,⟨41,a6 c (cS Z c Y)⟩,⟨43,bd l⟩,⟨27,[.slice none 0 0,.slice none 0 0]⟩,⟨27,bk { t with conns := (t1l ++ ([((c,.slice v2a c.r.held.length v2c) : CV)] : List CV)) } (.slice v6a ((t1l ++ ([((c,.slice v2a c.r.held.length v2c) : CV)] : List CV)).length) v6c) (.slice t1d t.waiting.length t1e)⟩],[],[a9 w.heap.size 41 25 (.slice v6a ((t1l ++ ([((c,.slice v2a c.r.held.length v2c) : CV)] : List CV)).length) v6c) ((t1l ++ ([((c,.slice v2a c.r.held.length v2c) : CV)] : List CV)).map aq),a9 w.heap.size 41 25 (.slice (some ⟨g4,0,none⟩) 1 1) (([((c,.slice v2a c.r.held.length v2c) : CV)] : List CV).map aq),bm w.heap.size (cS v2a c v2c) 2 (c.r.held.map pC),cT w.heap.size t1l,a9 w.heap.size 32 3 (.slice t1d t.waiting.length t1e) (t.waiting.map a7),aJ (.slice Atc t.conns.length Ctc) 25 (t.conns.map aq),cL t.conns,aJ (.slice Atw t.waiting.length Ctw) 3 (t.waiting.map a7),cH Z c Y]⟩ (by kernel_rfl) rfl (by kernel_rfl) rfl (by kernel_rfl) (aH (e := 32) (K := 3) (bytes := 24) [.agg (bX c.t).toArray] (rs := ([c.t] : List Tup).map a7) rfl rfl) ?_
 intro g16
 refine kHD 0 [3,5,6,8,19,22] [] rfl (aE (e := 32) (K := 3) (bytes := 24) (i := 5) (q := (t.waiting ++ ([c.t] : List Tup)).length) (new := ([c.t] : List Tup).map a7) (rs' := (t.waiting ++ ([c.t] : List Tup)).map a7) rfl rfl rfl rfl (by kernel_rfl) (by kernel_rfl) (by kernel_rfl) rfl (by simp) (by rw [List.map_append]) (by simp) (fun ww hf => (ax (hf (a9 w.heap.size 32 3 (.slice (some ⟨g16,0,none⟩) 1 1) (([c.t] : List Tup).map a7)) (by simp)))) (by intro r hr; obtain ⟨x,hx,rfl⟩ := List.mem_map.1 hr; exact ⟨rfl,by simp [a7,Value.oneCell']⟩) (by (try simp only [List.length_map,List.length_append,List.length_cons,List.length_nil,List.length_take,List.length_drop,maxLen]); omega) (by (try simp only [List.length_map,List.length_append,List.length_cons,List.length_nil,List.length_take,List.length_drop,maxLen]); omega)) ?_
 rintro ⟨v17a,v17c⟩
 refine bC [3,5,6,8] [] 4 ⟨27,[.slice v6a ((t1l ++ ([((c,.slice v2a c.r.held.length v2c) : CV)] : List CV)).length) v6c,.slice v17a ((t.waiting ++ ([c.t] : List Tup)).length) v17c]⟩ <| kS <| kS <| xw_wk ((gj [4,5,0,1,2,3,6,7,8,9] [bm w.heap.size (cS v2a c v2c) 2 (c.r.held.map pC),cT w.heap.size t1l,a9 w.heap.size 32 3 (.slice v17a ((t.waiting ++ ([c.t] : List Tup)).length) v17c) ((t.waiting ++ ([c.t] : List Tup)).map a7),a9 w.heap.size 32 3 (.slice (some ⟨g16,0,none⟩) 1 1) (([c.t] : List Tup).map a7),a9 w.heap.size 41 25 (.slice v6a ((t1l ++ ([((c,.slice v2a c.r.held.length v2c) : CV)] : List CV)).length) v6c) ((t1l ++ ([((c,.slice v2a c.r.held.length v2c) : CV)] : List CV)).map aq),a9 w.heap.size 41 25 (.slice (some ⟨g4,0,none⟩) 1 1) (([((c,.slice v2a c.r.held.length v2c) : CV)] : List CV).map aq),aJ (.slice Atc t.conns.length Ctc) 25 (t.conns.map aq),cL t.conns,aJ (.slice Atw t.waiting.length Ctw) 3 (t.waiting.map a7),cH Z c Y] (by kernel_rfl) (by kernel_rfl)).trans (fM (fun _ _ _ _ h => hown_snoc (cs := t1l) (x := ((c,.slice v2a c.r.held.length v2c) : CV)) h))) ?_
 have hfn := fit_snoc (L := t1l) (c := c) (v := .slice v2a c.r.held.length v2c) hfit_t1l hfc
 have hpo := put_ok (t := t) (c := c) (l := l) (L := t1l) (v := .slice v2a c.r.held.length v2c) (W := (t.waiting ++ ([c.t] : List Tup))) ht1l rfl
 refine kG <| kCF 2 [3,6,8,25,26] ⟨[(3,.p 0 0),(6,.p 3 0),(8,.p 4 0),(25,.v (.agg #[.slice v6a ((t1l ++ ([((c,.slice v2a c.r.held.length v2c) : CV)] : List CV)).length) v6c,.slice v17a ((t.waiting ++ ([c.t] : List Tup)).length) v17c])),(26,.v (.agg (bd l).toArray))],[⟨27,bk t (.slice Atc t.conns.length Ctc) (.slice Atw t.waiting.length Ctw)⟩,⟨41,a6 c (cS Z c Y)⟩,⟨43,bd l⟩,⟨27,[.slice none 0 0,.slice none 0 0]⟩,⟨27,[.slice v6a ((t1l ++ ([((c,.slice v2a c.r.held.length v2c) : CV)] : List CV)).length) v6c,.slice v17a ((t.waiting ++ ([c.t] : List Tup)).length) v17c]⟩],[],[cT w.heap.size (t1l ++ ([((c,.slice v2a c.r.held.length v2c) : CV)] : List CV)),a9 w.heap.size 32 3 (.slice v17a ((t.waiting ++ ([c.t] : List Tup)).length) v17c) ((t.waiting ++ ([c.t] : List Tup)).map a7),a9 w.heap.size 32 3 (.slice (some ⟨g16,0,none⟩) 1 1) (([c.t] : List Tup).map a7),a9 w.heap.size 41 25 (.slice v6a ((t1l ++ ([((c,.slice v2a c.r.held.length v2c) : CV)] : List CV)).length) v6c) ((t1l ++ ([((c,.slice v2a c.r.held.length v2c) : CV)] : List CV)).map aq),a9 w.heap.size 41 25 (.slice (some ⟨g4,0,none⟩) 1 1) (([((c,.slice v2a c.r.held.length v2c) : CV)] : List CV).map aq),aJ (.slice Atc t.conns.length Ctc) 25 (t.conns.map aq),cL t.conns,aJ (.slice Atw t.waiting.length Ctw) 3 (t.waiting.map a7),cH Z c Y]⟩ 13 [.agg #[.slice v6a ((t1l ++ ([((c,.slice v2a c.r.held.length v2c) : CV)] : List CV)).length) v6c,.slice v17a ((t.waiting ++ ([c.t] : List Tup)).length) v17c],.agg (bd l).toArray] (some 27) rfl (aA fun ww hf => yiTableOk_c (⟨(t1l ++ ([((c,.slice v2a c.r.held.length v2c) : CV)] : List CV)),(t.waiting ++ ([c.t] : List Tup))⟩) (.slice v6a ((t1l ++ ([((c,.slice v2a c.r.held.length v2c) : CV)] : List CV)).length) v6c) (.slice v17a ((t.waiting ++ ([c.t] : List Tup)).length) v17c) l ww (ax (hf _ m3)) (ew (hf _ m0)) (ax (hf _ m1)) (by assumption)) ?_
 intro _
 refine aW [3,6,8,28] [(28,aB (!(bp (⟨(t1l ++ ([((c,.slice v2a c.r.held.length v2c) : CV)] : List CV)),(t.waiting ++ ([c.t] : List Tup))⟩) l)))] <| kC (!(bp (⟨(t1l ++ ([((c,.slice v2a c.r.held.length v2c) : CV)] : List CV)),(t.waiting ++ ([c.t] : List Tup))⟩) l)) (fun h18 => ?_) (fun h18 => ?_)
 have h18n := bS h18
 have hpv : dn t c l = false := hpo.symm.trans h18n
 refine kQ <| dR 1 [6,29] [(29,.v (.agg (bk t (.slice Atc t.conns.length Ctc) (.slice Atw t.waiting.length Ctw)).toArray))] 21 [.agg (bk t (.slice Atc t.conns.length Ctc) (.slice Atw t.waiting.length Ctw)).toArray] (some 30) rfl (cb fun ww hw hf => ycloneTable_c t (.slice Atc t.conns.length Ctc) (.slice Atw t.waiting.length Ctw) ww (hf _ m5) (hf _ m6) (hf _ m7) (by first | assumption | (dsimp only; assumption)) (by first | assumption | omega | (dsimp only; omega)) (by first | assumption | omega | (dsimp only; omega)) w.heap.size hw) ?_
 rintro ⟨⟨t19l,ht19l⟩,⟨t19a,t19c⟩,⟨t19d,t19e⟩⟩
 dsimp only
 have hfit_t19l : ∀ x ∈ t19l,bW x.1 := fJ ht19l (by assumption)
 have hlen_t19l := pl_len ht19l
 refine bC [6,7] [(7,aB false)] 3 ⟨27,bk { t with conns := t19l } (.slice t19a t19l.length t19c) (.slice t19d t.waiting.length t19e)⟩ <| kR ?_
 have hmc : pl t19l = ga t c l := by unfold ga; rw [hpv,if_neg (by decide),ht19l]
 have hmw : (bQ t c l) = t.waiting := by unfold bQ; rw [hpv]; rfl
 have hm0 : (dn t c l) = false := by exact hpv
 exact ⟨[.agg (bk { t with conns := t19l } (.slice t19a t19l.length t19c) (.slice t19d t.waiting.length t19e)).toArray,.bool false],by kernel_rfl,fun w' hb hf ha => by rw [hmw,hm0]; exact xo3 (⟨t19l,hmc⟩,(t19a,t19c),(t19d,t19e)) rfl rfl (pW (hf _ m0) hB) (pH (hf _ m1) hB) (pW (hf _ m2) hB) (Apart.sub3 ha [0,1,2] rfl (by decide) rfl rfl rfl (by exact fun b h => h) (fun b h => eV h) (by exact fun b h => h)) hb⟩
 have h18n := aF h18
 have hpv : dn t c l = true := hpo.symm.trans h18n
 refine kK <| kQ <| bC [6,7] [(7,aB true)] 3 ⟨27,[.slice v6a ((t1l ++ ([((c,.slice v2a c.r.held.length v2c) : CV)] : List CV)).length) v6c,.slice v17a ((t.waiting ++ ([c.t] : List Tup)).length) v17c]⟩ <| kR ?_
 have hmc : pl (t1l ++ ([((c,.slice v2a c.r.held.length v2c) : CV)] : List CV)) = ga t c l := by unfold ga; rw [hpv,if_pos rfl,pl_snocc,ht1l]
 have hmw : (bQ t c l) = (t.waiting ++ ([c.t] : List Tup)) := by unfold bQ; rw [hpv]; rfl
 have hm0 : (dn t c l) = true := by exact hpv
 exact ⟨[.agg #[.slice v6a ((t1l ++ ([((c,.slice v2a c.r.held.length v2c) : CV)] : List CV)).length) v6c,.slice v17a ((t.waiting ++ ([c.t] : List Tup)).length) v17c],.bool true],by kernel_rfl,fun w' hb hf ha => by rw [hmw,hm0]; exact xo3 (⟨(t1l ++ ([((c,.slice v2a c.r.held.length v2c) : CV)] : List CV)),hmc⟩,(v6a,v6c),(v17a,v17c)) rfl rfl (pW (hf _ m3) hB) (pH (hf _ m0) hB) (pW (hf _ m1) hB) (Apart.sub3 ha [3,0,1] rfl (by decide) rfl rfl rfl (by exact fun b h => h) (fun b h => eV h) (by exact fun b h => h)) hb⟩
theorem ysTakeWaiting_c (t : Tab) (t_connsV : Value) (t_waitingV : Value) (w : World) (hl_t_connsV : Sl w t_connsV 25 (t.conns.map aq)) (hh_t_connsV : ∀ x ∈ t.conns, Sl w x.2 2 (x.1.r.held.map pC)) (hl_t_waitingV : Sl w t_waitingV 3 (t.waiting.map a7)) (hfit : ∀ x ∈ t.conns, bW x.1) (hln : t.conns.length ≤ 1048576) (hlw : t.waiting.length ≤ 1048576) (B : Nat) (hB : B ≤ w.heap.size) : Calls Tryz.prog 70 #[.agg (bk t t_connsV t_waitingV).toArray] w fun e w' => XRs w w' e (α := {cs : List CV // pl cs = pl t.conns} × (Option Addr × Nat) × (Option Addr × Nat)) (fun y => .tuple #[.agg #[.slice y.2.1.1 y.1.1.length y.2.1.2, .slice y.2.2.1 ((gn t).length) y.2.2.2], .agg (bX (t.waiting.headD ⟨0, 0, 0⟩)).toArray, .bool (!t.waiting.isEmpty)]) (fun y => [a9 B 41 25 (.slice y.2.1.1 y.1.1.length y.2.1.2) (y.1.1.map aq), cT B y.1.1, a9 B 32 3 (.slice y.2.2.1 ((gn t).length) y.2.2.2) ((gn t).map a7)]) := by
 obtain ⟨Atc,Ctc,hvtc⟩ := hl_t_connsV.form
 rw [List.length_map] at hvtc; subst hvtc
 have hntc := hl_t_connsV.len; rw [List.length_map] at hntc
 have hqtc := Sl.capLe hl_t_connsV
 obtain ⟨Atw,Ctw,hvtw⟩ := hl_t_waitingV.form
 rw [List.length_map] at hvtw; subst hvtw
 have hntw := hl_t_waitingV.len; rw [List.length_map] at hntw
 have hqtw := Sl.capLe hl_t_waitingV
 refine cn (args := [.agg (bk t (.slice Atc t.conns.length Ctc) (.slice Atw t.waiting.length Ctw)).toArray]) (fn := Tryz.f70) [aJ (.slice Atc t.conns.length Ctc) 25 (t.conns.map aq),cL t.conns,aJ (.slice Atw t.waiting.length Ctw) 3 (t.waiting.map a7)] Tryz.func70 rfl Tryz.ntmps70 rfl (by simp only [List.mem_cons,List.not_mem_nil,or_false,forall_eq_or_imp,forall_eq]; exact ⟨⟨rfl,hl_t_connsV⟩,⟨rfl,hh_t_connsV⟩,⟨rfl,hl_t_waitingV⟩⟩) ?_
 refine kQ <| cm [1,2,3] ⟨[(1,.p 0 0),(2,.p 1 0),(3,.p 2 0)],[⟨27,bk t (.slice Atc t.conns.length Ctc) (.slice Atw t.waiting.length Ctw)⟩,⟨27,[.slice none 0 0,.slice none 0 0]⟩,⟨32,bX (⟨0,0,0⟩ : Tup)⟩],[],[aJ (.slice Atc t.conns.length Ctc) 25 (t.conns.map aq),cL t.conns,aJ (.slice Atw t.waiting.length Ctw) 3 (t.waiting.map a7)]⟩ <| kQ <| dR 1 [1,2,3,6] [(6,.v (.agg (bk t (.slice Atc t.conns.length Ctc) (.slice Atw t.waiting.length Ctw)).toArray))] 32 [.agg (bk t (.slice Atc t.conns.length Ctc) (.slice Atw t.waiting.length Ctw)).toArray] (some 7) rfl (cb fun ww hw hf => yl25Copy_c t (.slice Atc t.conns.length Ctc) (.slice Atw t.waiting.length Ctw) ww (hf _ m0) (hf _ m1) (hf _ m2) (by first | assumption | (dsimp only; assumption)) (by first | assumption | omega | (dsimp only; omega)) (by first | assumption | omega | (dsimp only; omega)) w.heap.size hw) ?_
 rintro ⟨⟨t1l,ht1l⟩,⟨t1a,t1c⟩,⟨t1d,t1e⟩⟩
 dsimp only
 have hfit_t1l : ∀ x ∈ t1l,bW x.1 := fJ ht1l (by assumption)
 have hlen_t1l := pl_len ht1l
 refine gk [1,2,3,5] [(5,.p 3 0)] [⟨27,bk { t with conns := t1l } (.slice t1a t1l.length t1c) (.slice t1d t.waiting.length t1e)⟩] <| kS <| kQ <| aW [1,2,3,5,11] [(11,aB (((t.waiting.length : Nat) : Int) == 0))] ?_
 refine kC (((t.waiting.length : Nat) : Int) == 0) (fun h2 => ?_) (fun h2 => ?_)
 have h2p := cI h2
 have hnil : t.waiting = [] := List.eq_nil_of_length_eq_zero (by have := cI h2; omega)
 refine kQ <| gc 1 [2,3,12] [(12,.v (.agg (bk { t with conns := t1l } (.slice t1a t1l.length t1c) (.slice t1d t.waiting.length t1e)).toArray))] (.agg (bX (⟨0,0,0⟩ : Tup)).toArray) rfl (fun _ _ _ ww hr => bn [] hr.1 rfl (by kernel_rfl) (by kernel_rfl) ww) ?_
 refine bC [2,3,4] [(4,aB false)] 1 ⟨27,bk { t with conns := t1l } (.slice t1a t1l.length t1c) (.slice t1d t.waiting.length t1e)⟩ <| kR ?_
 have hmc : pl t1l = pl t.conns := by exact ht1l
 have hmw : (gn t) = t.waiting := by unfold gn; rw [hnil]; rfl
 have hm0 : (t.waiting.headD ⟨0,0,0⟩) = (⟨0,0,0⟩) := by first | (rw [hnil]; rfl) | (cases hw : t.waiting with | nil => rw [hw] at hx; cases hx | cons y r => rw [hw] at hx; simpa using hx)
 have hm1 : (!t.waiting.isEmpty) = false := by first | (rw [hnil]; rfl) | (cases hw : t.waiting with | nil => rw [hw] at hx; cases hx | cons y r => rfl)
 exact ⟨[.agg (bk { t with conns := t1l } (.slice t1a t1l.length t1c) (.slice t1d t.waiting.length t1e)).toArray,.agg (bX (⟨0,0,0⟩ : Tup)).toArray,.bool false],by kernel_rfl,fun w' hb hf ha => by rw [hmw,hm0,hm1]; exact xo3 (⟨t1l,hmc⟩,(t1a,t1c),(t1d,t1e)) rfl rfl (pW (hf _ m0) hB) (pH (hf _ m1) hB) (pW (hf _ m2) hB) (Apart.sub3 ha [0,1,2] rfl (by decide) rfl rfl rfl (by exact fun b h => h) (fun b h => eV h) (by exact fun b h => h)) hb⟩
 have h2p := cB h2
 have hpos : 0 < t.waiting.length := by have := cB h2; omega
 obtain ⟨x,hx⟩ : ∃ x,t.waiting[0]? = some x := ⟨_,List.getElem?_eq_getElem hpos⟩
 have hwl := takeW_len t
 refine kK <| kQ <| kHD 0 [1,2,3,5] [] rfl (aH (e := 32) (K := 3) (bytes := 24) [] (rs := ([] : List Tup).map a7) rfl rfl) ?_
 intro g3
 refine gc 2 [1,2,3,5,14,16] [(16,.v (.slice Atw t.waiting.length Ctw))] (.slice (if Ctw = 1 then Atw else Atw.map (·.add (1 * 3))) (t.waiting.length - 1) (Ctw - 1)) rfl (fun _ _ _ ww hr => act_slVe (e := 32) 1 hr.1 rfl (by kernel_rfl) (by kernel_rfl) rfl rfl rfl (by omega) ww) ?_
 refine kHD 0 [1,2,3,5,14,17] [] rfl (aE (e := 32) (K := 3) (bytes := 24) (i := 0) (q := ((t.waiting.drop 1).take (t.waiting.length - 1)).length) (new := ((t.waiting.drop 1).take (t.waiting.length - 1)).map a7) (rs' := ((t.waiting.drop 1).take (t.waiting.length - 1)).map a7) rfl rfl rfl rfl (by kernel_rfl) (by kernel_rfl) (by kernel_rfl) rfl (by first | (simp; done) | (simp; omega)) rfl (by first | (simp; done) | (simp; omega)) (fun ww hf => (Sl.partM (hf (aJ (.slice Atw t.waiting.length Ctw) 3 (t.waiting.map a7)) (by simp)) 1 t.waiting.length (by omega) (by omega))) (by intro r hr; obtain ⟨x,hx,rfl⟩ := List.mem_map.1 hr; exact ⟨rfl,by simp [a7,Value.oneCell']⟩) (by (try simp only [List.length_map,List.length_append,List.length_cons,List.length_nil,List.length_take,List.length_drop,maxLen]); omega) (by (try simp only [List.length_map,List.length_append,List.length_cons,List.length_nil,List.length_take,List.length_drop,maxLen]); omega)) ?_
 rintro ⟨v4a,v4c⟩
 refine bC [1,2,3,5] [] 3 ⟨27,[.slice t1a t1l.length t1c,.slice v4a (((t.waiting.drop 1).take (t.waiting.length - 1)).length) v4c]⟩ <| kS <| d5 <| cA (K := 3) (j := 0) [iI x.ip,iI x.port,iI x.my] (aJ (.slice Atw t.waiting.length Ctw) 3 (t.waiting.map a7)) (fun _ _ h => h) (by simp) (fun w h => h) (fun b h => h) (by simp only [List.getElem?_map,hx]; rfl) (fun bq5 offq5 hAq5 => ?_)
 refine ci [true,false,false,true] (by kernel_rfl) (fun ρ σ hq6 => ?_)
 refine d9 [0,1,2] [22,20,2,3] 5 [(22,.v (.slice Atw t.waiting.length Ctw)),(20,.v (.agg #[.slice t1a t1l.length t1c,.slice v4a (((t.waiting.drop 1).take (t.waiting.length - 1)).length) v4c]))] <| cX (kd := .i64) (T := 25) (e := 32) (K := 3) (j := 0) (A := Atw) (len := t.waiting.length) (cap := Ctw) 3 0 _ rfl (by kernel_rfl) (by kernel_rfl) (by kernel_rfl) (fun _ _ h => h) (by kernel_rfl) rfl rfl (by kernel_rfl) (by kernel_rfl) (by kernel_rfl) (by kernel_rfl) hpos hAq5 hq6.2 (by kernel_rfl) rfl ?_
 refine d9 [4] [24,20,2,3] 3 [(24,.v (.agg (bX x).toArray))] <| kA [5] <| dg 5 1 0 [.slice t1a t1l.length t1c,.slice v4a (((t.waiting.drop 1).take (t.waiting.length - 1)).length) v4c] rfl <| kA [6] ?_
 refine dg 6 2 0 (bX x) rfl <| d9 [7] [4,2,3] 0 [(4,aB true)] <| kZ <| kR ?_
 have hmc : pl t1l = pl t.conns := by exact ht1l
 have hmw : (gn t) = ((t.waiting.drop 1).take (t.waiting.length - 1)) := by unfold gn; rw [List.take_of_length_le (by simp)]
 have hm0 : (t.waiting.headD ⟨0,0,0⟩) = x := by first | (rw [hnil]; rfl) | (cases hw : t.waiting with | nil => rw [hw] at hx; cases hx | cons y r => rw [hw] at hx; simpa using hx)
 have hm1 : (!t.waiting.isEmpty) = true := by first | (rw [hnil]; rfl) | (cases hw : t.waiting with | nil => rw [hw] at hx; cases hx | cons y r => rfl)
 exact ⟨[.agg #[.slice t1a t1l.length t1c,.slice v4a (((t.waiting.drop 1).take (t.waiting.length - 1)).length) v4c],.agg (bX x).toArray,.bool true],by kernel_rfl,fun w' hb hf ha => by rw [hmw,hm0,hm1]; exact xo3 (⟨t1l,hmc⟩,(t1a,t1c),(v4a,v4c)) rfl rfl (pW (hf _ m1) hB) (pH (hf _ m2) hB) (pW (hf _ m0) hB) (Apart.sub3 ha [1,2,0] rfl (by decide) rfl rfl rfl (by exact fun b h => h) (fun b h => eV h) (by exact fun b h => h)) hb⟩
theorem yl18Free_c (l : List Int) (lV : Value) (m : Nat) (w : World) (hl_lV : Sl w lV 1 (l.map az)) (hm : m ≤ l.length) : Calls Tryz.prog 130 #[lV, iI (m : Int)] w fun e w' => e = .returned (.bool (dD l m)) ∧ Below w.heap.size w w' := by
 obtain ⟨Al,Cl,hvl⟩ := hl_lV.form
 rw [List.length_map] at hvl; subst hvl
 have hnl := hl_lV.len; rw [List.length_map] at hnl
 have hql := Sl.capLe hl_lV
 refine bZ (args := [.slice Al l.length Cl,iI (m : Int)]) (fn := Tryz.f130) [aJ (.slice Al l.length Cl) 1 (l.map az)] Tryz.func130 rfl Tryz.ntmps130 rfl (by simp only [List.mem_cons,List.not_mem_nil,or_false,forall_eq_or_imp,forall_eq]; exact ⟨rfl,hl_lV⟩) ?_
 refine kQ <| cm [0,1] ⟨[(0,.v (.slice Al l.length Cl)),(1,aI (m : Int))],[],[],[aJ (.slice Al l.length Cl) 1 (l.map az)]⟩ <| kS <| kQ <| aT [0,5] [(0,.v (.slice Al l.length Cl)),(5,aI (m : Int))] ?_
 refine ao <| bc (α := {x : Nat // (fun (k : Nat) => k ≤ l.length ∧ dD l m = dD l k) x}) (fun x => (fun (k : Nat) => (⟨[(0,.v (.slice Al l.length Cl)),(5,aI (k : Int))],[],[],[aJ (.slice Al l.length Cl) 1 (l.map az)]⟩ : St)) x.1) (fun x => l.length - x.1) ⟨(m),⟨hm,rfl⟩⟩ (kF 0 0 [0,5]) ?_
 rintro ⟨k,hk,HK⟩
 try dsimp only
 try dsimp only at hk HK
 refine kS <| kQ <| aT [0,5,10] [(0,.v (.slice Al l.length Cl)),(5,aI (k : Int)),(10,aB (decide ((k : Int) < ((l.length : Nat) : Int))))] <| kC (decide ((k : Int) < ((l.length : Nat) : Int))) (fun h1 => ?_) (fun h1 => ?_)
 have h1p := of_decide_eq_true h1
 have hlt : k < l.length := by simpa using h1
 obtain ⟨x,hx⟩ : ∃ x,l[k]? = some x := ⟨_,List.getElem?_eq_getElem hlt⟩
 have hfs := freeFrom_step hx
 refine kK <| kS <| ao <| kQ <| xl_indexS (kd := .i64) (T := 76) (e := 3) (K := 1) 2 [0,5,13,14] [(0,.v (.slice Al l.length Cl)),(5,aI (k : Int)),(13,.v (.slice Al l.length Cl)),(14,aI (k : Int))] k [iI x] (aJ (.slice Al l.length Cl) 1 (l.map az)) (by kernel_rfl) rfl (by kernel_rfl) rfl rfl (by kernel_rfl) (by kernel_rfl) (by kernel_rfl) (by kernel_rfl) hlt (by simp) (fun w h => h) (fun b h => h) (by simp only [List.getElem?_map,hx]; rfl) ?_
 refine aT [0,5,17] [(0,.v (.slice Al l.length Cl)),(5,aI (k : Int)),(17,aB (decide (x ≥ 0)))] <| kC (decide (x ≥ 0)) (fun h2 => ?_) (fun h2 => ?_)
 have h2p := of_decide_eq_true h2
 refine kQ <| aT [4] [(4,aB false)] <| kR ?_
 have hmod : dD l m = false := by first | (rw [HK]; exact hfe) | (rw [HK,hfs]; simp; omega) | (rw [HK,hfs]; simp [*])
 exact ⟨[.bool false],by kernel_rfl,fun w' hb hf => by rw [hmod]; exact ⟨rfl,hb⟩⟩
 have h2p := of_decide_eq_false h2
 refine kK <| kG <| dt 3 [0,5] [(0,.v (.slice Al l.length Cl)),(5,aI (K6.wrap ((k : Int) + 1)))] <| fU (t' := [(0,.v (.slice Al l.length Cl)),(5,aI ((k : Int) + 1))]) (by rw [show (K6.wrap ((k : Int) + 1)) = ((k : Int) + 1) from al (by omega) (by omega)]) ?_
 refine aT [0,5] [(0,.v (.slice Al l.length Cl)),(5,aI ((k : Int) + 1))] ?_
 exact ⟨⟨(k + 1),⟨by omega,by rw [HK,hfs]; simp; omega⟩⟩,kF 0 0 [0,5],by show l.length - (k + 1) < l.length - k; omega⟩
 have h1p := of_decide_eq_false h1
 have hge : k = l.length := by simp at h1; omega
 have hfe := freeFrom_end l
 subst hge
 refine bH <| kQ <| aT [4] [(4,aB true)] <| kR ?_
 have hmod : dD l m = true := by first | (rw [HK]; exact hfe) | (rw [HK,hfs]; simp; omega) | (rw [HK,hfs]; simp [*])
 exact ⟨[.bool true],by kernel_rfl,fun w' hb hf => by rw [hmod]; exact ⟨rfl,hb⟩⟩
theorem yl18Slots_c (r : Rcv) (r_heldV : Value) (w : World) (hl_r_heldV : Sl w r_heldV 2 (r.held.map pC)) (hkn : r.held.length ≤ 1048576) (hheld : ∀ p ∈ r.held, 0 < p.off ∧ p.off + (p.text.size : Int) ≤ 32) (B : Nat) (hB : B ≤ w.heap.size) : Calls Tryz.prog 129 #[.agg (ag r r_heldV).toArray] w fun e w' => XRs w w' e (α := Option Addr × Nat) (fun y => .slice y.1 ((aY r).length) y.2) (fun y => [a9 B 3 1 (.slice y.1 ((aY r).length) y.2) ((aY r).map az)]) := by
 obtain ⟨Arh,Crh,hvrh⟩ := hl_r_heldV.form
 rw [List.length_map] at hvrh; subst hvrh
 have hnrh := hl_r_heldV.len; rw [List.length_map] at hnrh
 have hqrh := Sl.capLe hl_r_heldV
 refine cn (args := [.agg (ag r (.slice Arh r.held.length Crh)).toArray]) (fn := Tryz.f129) [aJ (.slice Arh r.held.length Crh) 2 (r.held.map pC)] Tryz.func129 rfl Tryz.ntmps129 rfl (by simp only [List.mem_cons,List.not_mem_nil,or_false,forall_eq_or_imp,forall_eq]; exact ⟨rfl,hl_r_heldV⟩) ?_
 refine kQ <| cm [1] ⟨[(1,.p 0 0)],[⟨37,ag r (.slice Arh r.held.length Crh)⟩],[],[aJ (.slice Arh r.held.length Crh) 2 (r.held.map pC)]⟩ <| kQ <| kHS 0 [1] [(1,.p 0 0)] rfl (hv_make (kl := .i64) (kc := .i64) (e := 3) (K := 1) (bytes := 8) (m := 33) (z := iI 0) (rs := (List.replicate 33 0).map az) rfl (by kernel_rfl) (by kernel_rfl) (by kernel_rfl) (by kernel_rfl) (by (try simp only [List.length_map,List.length_append,List.length_cons,List.length_nil,List.length_take,List.length_drop,maxLen]); omega) (by (try simp only [List.length_map,List.length_append,List.length_cons,List.length_nil,List.length_take,List.length_drop,maxLen]); omega) (by rw [List.map_replicate]; rfl)) ?_
 intro g1
 refine aW [1,3] [(3,.v (.slice (some ⟨g1,0,none⟩) 33 33))] <| kS <| kQ <| aW [1,3,4] [(4,aI 0)] ?_
 refine ao <| bc (α := {x : Nat × List Int // (fun (k : Nat) (l : List Int) => k ≤ 33 ∧ l.length = 33 ∧ l.take k = List.replicate k (-1)) x.1 x.2}) (fun x => (fun (k : Nat) (l : List Int) => (⟨[(1,.p 0 0),(3,.v (.slice (some ⟨g1,0,none⟩) 33 33)),(4,aI (k : Int))],[⟨37,ag r (.slice Arh r.held.length Crh)⟩],[],[a9 w.heap.size 3 1 (.slice (some ⟨g1,0,none⟩) 33 33) (l.map az),aJ (.slice Arh r.held.length Crh) 2 (r.held.map pC)]⟩ : St)) x.1.1 x.1.2) (fun x => (fun (k : Nat) (l : List Int) => 33 - k) x.1.1 x.1.2) ⟨(0,(List.replicate 33 0)),⟨Nat.zero_le _,by simp,rfl⟩⟩ (eW [0,1] <| kF 1 0 [1,3,4]) ?_
 rintro ⟨⟨k,l⟩,hk,hl,HK⟩
 try dsimp only
 try dsimp only at hk hl HK
 refine kS <| kQ <| aW [1,3,4,11] [(11,aB (decide ((k : Int) < 33)))] <| kC (decide ((k : Int) < 33)) (fun h2 => ?_) (fun h2 => ?_)
 have h2p := of_decide_eq_true h2
 have hlt : k < 33 := by simp at h2; omega
 obtain ⟨x0,hx0⟩ : ∃ x,l[k]? = some x := ⟨_,List.getElem?_eq_getElem (by omega)⟩
 refine kK <| kS <| ao <| kG <| gc 2 [1,3,4,14,15] [(14,.v (.slice (some ⟨g1,0,none⟩) 33 33)),(15,aI (k : Int))] (.pointer (some ⟨g1,k * 1,none⟩)) rfl (fun _ _ _ ww hr => ee (kd := .i64) (T := 76) (e := 3) (K := 1) (g := g1) (N := 33) (cap := 33) k rfl hr.1 rfl rfl (by kernel_rfl) (by kernel_rfl) (by kernel_rfl) hlt ww) ?_
 refine xl_hs 0 [1,3,4,16] ⟨[(1,.p 0 0),(3,.v (.slice (some ⟨g1,0,none⟩) 33 33)),(4,aI (k : Int)),(16,.v (.pointer (some ⟨g1,k * 1,none⟩)))],[⟨37,ag r (.slice Arh r.held.length Crh)⟩],[],[a9 w.heap.size 3 1 (.slice (some ⟨g1,0,none⟩) 33 33) (l.map az),aJ (.slice Arh r.held.length Crh) 2 (r.held.map pC)]⟩ (by kernel_rfl) rfl (by kernel_rfl) rfl (by kernel_rfl) (HSg.hs (hs_stR (g := g1) (B := w.heap.size) (e := 3) (K := 1) (N := 33) (cap := 33) (rs := (l.map az)) (rs' := (l.set k (-1)).map az) (v := (iI (-1))) (i := 0) (off := k * 1) k 0 [iI x0] (row' := [iI (-1)]) rfl rfl (by kernel_rfl) rfl (by kernel_rfl) (by kernel_rfl) (by kernel_rfl) (by kernel_rfl) (Nat.le_refl _) (by simp only [List.getElem?_map,hx0]; rfl) (by kernel_rfl) rfl (by rw [List.map_set]; rfl))) ?_
 refine aW [1,3,4] [] <| kG <| di 3 [1,3,4] [(4,aI (K6.wrap ((k : Int) + 1)))] <| cU [1,3,4] [(4,aI (K6.wrap ((k : Int) + 1)))] [(4,aI ((k : Int) + 1))] (by rw [show (K6.wrap ((k : Int) + 1)) = ((k : Int) + 1) from al (by omega) (by omega)]) (by kernel_rfl) ?_
 refine aW [1,3,4] [] ?_
 exact ⟨⟨(k + 1,l.set k (-1)),⟨hlt,(by rw [List.length_set]; exact hl),init_step HK (by omega)⟩⟩,kF 1 0 [1,3,4],by show (fun (k : Nat) (l : List Int) => 33 - k) (k + 1) (l.set k (-1)) < 33 - k; (dsimp only; omega)⟩
 have h2p := of_decide_eq_false h2
 have hk33 : k = 33 := by simp at h2; omega
 have hl1 : l = List.replicate 33 (-1) := by rw [hk33,← hl,List.take_length] at HK; rw [HK,hl]
 refine bH <| kS <| kQ <| aW [1,3,5] [(5,aI 0)] ?_
 refine ao <| bc (α := {x : Nat × List Int // (fun (i : Nat) (l2 : List Int) => i ≤ r.held.length ∧ l2.length = 33 ∧ fh l r.held = fh l2 (r.held.drop i)) x.1 x.2}) (fun x => (fun (i : Nat) (l2 : List Int) => (⟨[(1,.p 0 0),(3,.v (.slice (some ⟨g1,0,none⟩) 33 33)),(5,aI (i : Int))],[⟨37,ag r (.slice Arh r.held.length Crh)⟩],[],[a9 w.heap.size 3 1 (.slice (some ⟨g1,0,none⟩) 33 33) (l2.map az),aJ (.slice Arh r.held.length Crh) 2 (r.held.map pC)]⟩ : St)) x.1.1 x.1.2) (fun x => (fun (i : Nat) (l2 : List Int) => r.held.length - i) x.1.1 x.1.2) ⟨(0,l),⟨Nat.zero_le _,hl,rfl⟩⟩ (eW [0,1] <| kF 1 0 [1,3,5]) ?_
 rintro ⟨⟨i,l2⟩,hi,hl2,H2⟩
 try dsimp only
 try dsimp only at hi hl2 H2
 refine kS <| kQ <| aW [1,3,5,21] [(21,aB (decide ((i : Int) < ((r.held.length : Nat) : Int))))] <| kC (decide ((i : Int) < ((r.held.length : Nat) : Int))) (fun h3 => ?_) (fun h3 => ?_)
 have h3p := of_decide_eq_true h3
 have hlt2 : i < r.held.length := by simpa using h3
 obtain ⟨pp,hx⟩ : ∃ p,r.held[i]? = some p := ⟨_,List.getElem?_eq_getElem hlt2⟩
 have hin := hheld pp (List.mem_of_getElem? hx)
 refine kK <| kS <| ao <| kQ <| aW [1,3,5,6] [(6,aI 0)] ?_
 refine ao <| bc (α := {x : Nat × List Int // (fun (q : Nat) (l3 : List Int) => q ≤ pp.text.size ∧ l3.length = 33 ∧ l3 = gQ l2 pp.off.toNat pp.text q) x.1 x.2}) (fun x => (fun (q : Nat) (l3 : List Int) => (⟨[(1,.p 0 0),(3,.v (.slice (some ⟨g1,0,none⟩) 33 33)),(5,aI (i : Int)),(6,aI (q : Int))],[⟨37,ag r (.slice Arh r.held.length Crh)⟩],[],[a9 w.heap.size 3 1 (.slice (some ⟨g1,0,none⟩) 33 33) (l3.map az),aJ (.slice Arh r.held.length Crh) 2 (r.held.map pC)]⟩ : St)) x.1.1 x.1.2) (fun x => (fun (q : Nat) (l3 : List Int) => pp.text.size - q) x.1.1 x.1.2) ⟨(0,l2),⟨Nat.zero_le _,hl2,rfl⟩⟩ (eW [0,1] <| kF 1 0 [1,3,5,6]) ?_
 rintro ⟨⟨q,l3⟩,hq,hl3,H3⟩
 try dsimp only
 try dsimp only at hq hl3 H3
 refine kS <| kQ <| de (kd := .i64) (T := 35) (e := 89) (K := 2) 4 [1,3,5,6,24,26,27] [(24,aI (q : Int)),(26,.v (.slice Arh r.held.length Crh)),(27,aI (i : Int))] i [iI pp.off,.string pp.text] (aJ (.slice Arh r.held.length Crh) 2 (r.held.map pC)) (by kernel_rfl) rfl (by kernel_rfl) rfl rfl (by kernel_rfl) (by kernel_rfl) (by kernel_rfl) (by kernel_rfl) hlt2 (by simp) (fun w h => h) (fun b h => h) (by simp only [List.getElem?_map,hx]; rfl) ?_
 refine aW [1,3,5,6,32] [(32,aB (decide ((q : Int) < (pp.text.size : Int))))] <| kC (decide ((q : Int) < (pp.text.size : Int))) (fun h4 => ?_) (fun h4 => ?_)
 have h4p := of_decide_eq_true h4
 have hlt3 : q < pp.text.size := by simpa using h4
 have hbr := gT pp.text q
 obtain ⟨x3,hx3⟩ : ∃ x,l3[pp.off.toNat + q]? = some x := ⟨_,List.getElem?_eq_getElem (by omega)⟩
 refine kK <| kS <| ao <| xw_wk (wkf (s' := ⟨[(1,.p 0 0),(3,.v (.slice (some ⟨g1,0,none⟩) 33 33)),(5,aI (i : Int)),(6,aI (q : Int)),(32,aB (decide ((q : Int) < (pp.text.size : Int))))],[⟨37,ag r (.slice Arh r.held.length Crh)⟩],[],[a9 w.heap.size 3 1 (.slice (some ⟨g1,0,none⟩) 33 33) (l3.map az),aJ (.slice Arh r.held.length Crh) 2 (r.held.map pC)]⟩) 1 0 [1,3,5,6,32] (by kernel_rfl)) ?_
 refine d5 <| cA (K := 2) (j := i) [iI pp.off,.string pp.text] (aJ (.slice Arh r.held.length Crh) 2 (r.held.map pC)) (fun _ _ h => h) (by simp) (fun w h => h) (fun b h => h) (by simp only [List.getElem?_map,hx]; rfl) (fun bq5 offq5 hAq5 => ?_)
 refine xws_know (ψ := bq5 ≠ g1) (fun _ _ _ _ hr => row_ne hr 0 1 rfl rfl rfl (by decide) hAq5 i [iI pp.off,.string pp.text] (by simp only [List.getElem?_map,hx]; rfl)) (fun hneq5g1 => ?_)
 refine cA (K := 2) (j := i) [iI pp.off,.string pp.text] (aJ (.slice Arh r.held.length Crh) 2 (r.held.map pC)) (fun _ _ h => h) (by simp) (fun w h => h) (fun b h => h) (by simp only [List.getElem?_map,hx]; rfl) (fun bq6 offq6 hAq6 => ?_)
 refine xws_know (ψ := bq6 ≠ g1) (fun _ _ _ _ hr => row_ne hr 0 1 rfl rfl rfl (by decide) hAq6 i [iI pp.off,.string pp.text] (by simp only [List.getElem?_map,hx]; rfl)) (fun hneq6g1 => ?_)
 refine ci [] (by kernel_rfl) (fun ρ σ hq7 => ?_)
 refine cJ [0,1,2,3,7,9,10,11,15] [50,46,45,42,38,37,35,1,3,5,6] 11 [(50,aI (q : Int)),(46,aI (i : Int)),(45,.v (.slice Arh r.held.length Crh)),(42,aI (q : Int)),(38,aI (i : Int)),(37,.v (.slice Arh r.held.length Crh)),(35,.v (.slice (some ⟨g1,0,none⟩) 33 33)),(1,.p 0 0),(3,.v (.slice (some ⟨g1,0,none⟩) 33 33)),(5,aI (i : Int)),(6,aI (q : Int))] <| cX (kd := .i64) (T := 35) (e := 89) (K := 2) (j := i) (A := Arh) (len := r.held.length) (cap := Crh) 4 0 _ rfl (by kernel_rfl) (by kernel_rfl) (by kernel_rfl) (fun _ _ h => h) (by kernel_rfl) rfl rfl (by kernel_rfl) (by kernel_rfl) (by kernel_rfl) (by kernel_rfl) hlt2 hAq5 hq7.1.2 (by kernel_rfl) rfl ?_
 refine cJ [5,6,8] [43,50,46,45,35,1,3,5,6] 7 [(43,aI (K6.wrap (pp.off + (q : Int)))),(50,aI (q : Int)),(46,aI (i : Int)),(45,.v (.slice Arh r.held.length Crh)),(35,.v (.slice (some ⟨g1,0,none⟩) 33 33)),(1,.p 0 0),(3,.v (.slice (some ⟨g1,0,none⟩) 33 33)),(5,aI (i : Int)),(6,aI (q : Int))] <| xe_nv [43,50,46,45,35,1,3,5,6] [(43,aI (K6.wrap (pp.off + (q : Int))))] [(43,aI ((pp.off.toNat + q : Nat) : Int))] (by rw [show (K6.wrap (pp.off + (q : Int))) = ((pp.off.toNat + q : Nat) : Int) from by rw [al (by omega) (by omega)]; omega]) (by kernel_rfl) ?_
 refine cX (kd := .i64) (T := 35) (e := 89) (K := 2) (j := i) (A := Arh) (len := r.held.length) (cap := Crh) 12 1 _ rfl (by kernel_rfl) (by kernel_rfl) (by kernel_rfl) (fun _ _ h => h) (by kernel_rfl) rfl rfl (by kernel_rfl) (by kernel_rfl) (by kernel_rfl) (by kernel_rfl) hlt2 hAq6 hq7.2 (by kernel_rfl) rfl ?_
 refine cJ [13,14] [49,43,50,35,1,3,5,6] 4 [(49,.v (.string pp.text)),(43,aI ((pp.off.toNat + q : Nat) : Int)),(50,aI (q : Int)),(35,.v (.slice (some ⟨g1,0,none⟩) 33 33)),(1,.p 0 0),(3,.v (.slice (some ⟨g1,0,none⟩) 33 33)),(5,aI (i : Int)),(6,aI (q : Int))] <| kX 16 (.int .u8 (cz pp.text q)) rfl (fun _ _ ww hA => act_tix (kd := .i64) (t := pp.text) q hA rfl rfl (by kernel_rfl) (by kernel_rfl) hlt3 ww) ?_
 refine cJ [17] [52,43,35,1,3,5,6] 2 [(52,aI (K6.wrap (cz pp.text q))),(43,aI ((pp.off.toNat + q : Nat) : Int)),(35,.v (.slice (some ⟨g1,0,none⟩) 33 33)),(1,.p 0 0),(3,.v (.slice (some ⟨g1,0,none⟩) 33 33)),(5,aI (i : Int)),(6,aI (q : Int))] <| xe_nv [52,43,35,1,3,5,6] [(52,aI (K6.wrap (cz pp.text q)))] [(52,aI (cz pp.text q))] (by rw [show (K6.wrap (cz pp.text q)) = (cz pp.text q) from al (by omega) (by omega)]) (by kernel_rfl) ?_
 refine kX 18 (.pointer (some ⟨g1,(pp.off.toNat + q) * 1,none⟩)) rfl (fun _ _ ww hA => ee (kd := .i64) (T := 76) (e := 3) (K := 1) (g := g1) (N := 33) (cap := 33) (pp.off.toNat + q) rfl hA rfl rfl (by kernel_rfl) (by kernel_rfl) (by kernel_rfl) (by omega) ww) ?_
 refine kA [19] <| xs_hsG 19 g1 rfl (by kernel_rfl) (by kernel_rfl) (by kernel_rfl) (a5 a8) (fun kk rr hk => match kk,hk with | 0,_ => .inr (fun h => hneq5g1 ((congrArg Prod.fst hq7.1.2).symm.trans h)) | 1,_ => .inr (fun h => hneq6g1 ((congrArg Prod.fst hq7.2).symm.trans h)) | nn + 2,hk => (by simp [addRow] at hk)) (hs_stR (g := g1) (B := w.heap.size) (e := 3) (K := 1) (N := 33) (cap := 33) (rs := (l3.map az)) (rs' := (l3.set (pp.off.toNat + q) (cz pp.text q)).map az) (v := (iI (cz pp.text q))) (i := 0) (off := (pp.off.toNat + q) * 1) (pp.off.toNat + q) 0 [iI x3] (row' := [iI (cz pp.text q)]) rfl rfl (by kernel_rfl) rfl (by kernel_rfl) (by kernel_rfl) (by kernel_rfl) (by kernel_rfl) (Nat.le_refl _) (by simp only [List.getElem?_map,hx3]; rfl) (by kernel_rfl) rfl (by rw [List.map_set]; rfl)) ?_
 refine kZ <| kG <| di 3 [1,3,5,6] [(6,aI (K6.wrap ((q : Int) + 1)))] <| cU [1,3,5,6] [(6,aI (K6.wrap ((q : Int) + 1)))] [(6,aI ((q : Int) + 1))] (by rw [show (K6.wrap ((q : Int) + 1)) = ((q : Int) + 1) from al (by omega) (by omega)]) (by kernel_rfl) ?_
 refine aW [1,3,5,6] [] ?_
 exact ⟨⟨(q + 1,(l3.set (pp.off.toNat + q) (cz pp.text q))),⟨hlt3,(by rw [List.length_set]; exact hl3),(by rw [H3]; rfl)⟩⟩,kF 1 0 [1,3,5,6],by show (fun (q : Nat) (l3 : List Int) => pp.text.size - q) (q + 1) (l3.set (pp.off.toNat + q) (cz pp.text q)) < pp.text.size - q; (dsimp only; omega)⟩
 have h4p := of_decide_eq_false h4
 have hq3 : q = pp.text.size := by simp at h4; omega
 refine bH <| kG <| di 3 [1,3,5] [(5,aI (K6.wrap ((i : Int) + 1)))] <| cU [1,3,5] [(5,aI (K6.wrap ((i : Int) + 1)))] [(5,aI ((i : Int) + 1))] (by rw [show (K6.wrap ((i : Int) + 1)) = ((i : Int) + 1) from al (by omega) (by omega)]) (by kernel_rfl) ?_
 refine aT [1,3,5] [(1,.p 0 0),(3,.v (.slice (some ⟨g1,0,none⟩) 33 33)),(5,aI ((i : Int) + 1))] ?_
 exact ⟨⟨(i + 1,l3),⟨hlt2,hl3,(by rw [H2,fR hx,fh,← hq3,← H3])⟩⟩,kF 1 0 [1,3,5],by show (fun (i : Nat) (l2 : List Int) => r.held.length - i) (i + 1) l3 < r.held.length - i; (dsimp only; omega)⟩
 have h3p := of_decide_eq_false h3
 have hi2 : i = r.held.length := by simp at h3; omega
 rw [hi2,List.drop_length] at H2; simp only [fh] at H2
 refine bH <| kQ <| aT [2] [(2,.v (.slice (some ⟨g1,0,none⟩) 33 33))] <| kR ?_
 have hmod : aY r = l2 := by (unfold aY; rw [← hl1]; exact H2)
 exact ⟨[.slice (some ⟨g1,0,none⟩) 33 33],by kernel_rfl,fun w' hb hf ha => by rw [hmod,hl2]; exact xo1 ((((some ⟨g1,0,none⟩) : Option Addr),33)) rfl rfl (pW (hf _ m0) hB) hb⟩
theorem yl18Pieces_c (l : List Int) (lV : Value) (m : Nat) (w : World) (hl_lV : Sl w lV 1 (l.map az)) (hm : m ≤ l.length) (hll : l.length ≤ 64) (hby : ∀ x ∈ l, x ≤ 255) (B : Nat) (hB : B ≤ w.heap.size) : Calls Tryz.prog 131 #[lV, iI (m : Int)] w fun e w' => XRs w w' e (α := Option Addr × Nat) (fun y => .slice y.1 ((gL [] 0 (l.drop m)).length) y.2) (fun y => [a9 B 89 2 (.slice y.1 ((gL [] 0 (l.drop m)).length) y.2) ((gL [] 0 (l.drop m)).map pC)]) := by
 obtain ⟨Al,Cl,hvl⟩ := hl_lV.form
 rw [List.length_map] at hvl; subst hvl
 have hnl := hl_lV.len; rw [List.length_map] at hnl
 have hql := Sl.capLe hl_lV
 refine cn (args := [.slice Al l.length Cl,iI (m : Int)]) (fn := Tryz.f131) [aJ (.slice Al l.length Cl) 1 (l.map az)] Tryz.func131 rfl Tryz.ntmps131 rfl (by simp only [List.mem_cons,List.not_mem_nil,or_false,forall_eq_or_imp,forall_eq]; exact ⟨rfl,hl_lV⟩) ?_
 refine kQ <| cm [0,1] ⟨[(0,.v (.slice Al l.length Cl)),(1,aI (m : Int))],[],[],[aJ (.slice Al l.length Cl) 1 (l.map az)]⟩ <| kQ <| kHS 0 [0,1] [(0,.v (.slice Al l.length Cl)),(1,aI (m : Int))] rfl (aH (e := 89) (K := 2) (bytes := 24) [] (rs := ([] : List Pce).map pC) rfl rfl) ?_
 intro g1
 refine aT [0,1,5] [(0,.v (.slice Al l.length Cl)),(1,aI (m : Int)),(5,.v (.slice (some ⟨g1,0,none⟩) 0 0))] <| kS <| kQ <| aT [0,1,5,6] [(0,.v (.slice Al l.length Cl)),(1,aI (m : Int)),(5,.v (.slice (some ⟨g1,0,none⟩) 0 0)),(6,aI (m : Int))] ?_
 refine ao <| bc (α := {x : Nat × List Pce × Option Addr × Nat × Nat // (fun (i : Nat) (out : List Pce) (A1 : Option Addr) (c1 : Nat) (n : Nat) => (m ≤ i ∧ i ≤ l.length) ∧ gL [] 0 (l.drop m) = gL out (i - m) (l.drop i) ∧ (∀ p ∈ out,0 ≤ p.off ∧ p.off + (p.text.size : Int) ≤ ((i - m : Nat) : Int)) ∧ out.length = n ∧ n ≤ i) x.1 x.2.1 x.2.2.1 x.2.2.2.1 x.2.2.2.2}) (fun x => (fun (i : Nat) (out : List Pce) (A1 : Option Addr) (c1 : Nat) (n : Nat) => (⟨[(0,.v (.slice Al l.length Cl)),(1,aI (m : Int)),(5,.v (.slice A1 n c1)),(6,aI (i : Int))],[],[],[a9 w.heap.size 89 2 (.slice A1 n c1) (out.map pC),aJ (.slice Al l.length Cl) 1 (l.map az)]⟩ : St)) x.1.1 x.1.2.1 x.1.2.2.1 x.1.2.2.2.1 x.1.2.2.2.2) (fun x => (fun (i : Nat) (out : List Pce) (A1 : Option Addr) (c1 : Nat) (n : Nat) => l.length - i) x.1.1 x.1.2.1 x.1.2.2.1 x.1.2.2.2.1 x.1.2.2.2.2) ⟨(m,([] : List Pce),(some ⟨g1,0,none⟩),0,0),⟨⟨Nat.le_refl _,hm⟩,(by rw [Nat.sub_self]),(by simp),rfl,Nat.zero_le _⟩⟩ (eW [0,1] <| kF 0 0 [0,1,5,6]) ?_
 rintro ⟨⟨i,out,A1,c1,n⟩,hi,HP,hbd,hn,hni⟩
 try dsimp only
 try dsimp only at hi HP hbd hn hni
 refine kS <| kQ <| aT [0,1,5,6,13] [(0,.v (.slice Al l.length Cl)),(1,aI (m : Int)),(5,.v (.slice A1 n c1)),(6,aI (i : Int)),(13,aB (decide ((i : Int) < ((l.length : Nat) : Int))))] <| kC (decide ((i : Int) < ((l.length : Nat) : Int))) (fun h2 => ?_) (fun h2 => ?_)
 have h2p := of_decide_eq_true h2
 have hlt : i < l.length := by simpa using h2
 obtain ⟨x,hx⟩ : ∃ x,l[i]? = some x := ⟨_,List.getElem?_eq_getElem hlt⟩
 have hx255 := hby x (List.mem_of_getElem? hx)
 have hps := pcs_step (out := out) hx hi.1
 refine xw_know (φ := ∃ b off,Al = some ⟨b,off,none⟩) (fun _ _ _ _ hr => know_sl hr (K := 1) (rs := l.map az) 1 rfl (j := i) (row := [iI x]) (by simp only [List.getElem?_map,hx]; rfl)) ?_
 rintro ⟨bb,ob,hbb⟩
 refine kK <| kS <| ao <| kS <| kQ <| kOS 2 [0,1,5,6,16,17] [(0,.v (.slice Al l.length Cl)),(1,aI (m : Int)),(5,.v (.slice A1 n c1)),(6,aI (i : Int)),(16,.v (.slice Al l.length Cl)),(17,aI (i : Int))] (.pointer (some ⟨bb,ob + i * 1,none⟩)) rfl (fun _ _ _ ww hr => act_ixO (kd := .i64) (T := 76) (e := 3) (K := 1) (b := bb) (off := ob) (N := l.length) (cap := Cl) i hbb hr.1 rfl rfl (by kernel_rfl) (by kernel_rfl) (by kernel_rfl) hlt ww) ?_
 refine kOS 0 [0,1,5,6,18] [(0,.v (.slice Al l.length Cl)),(1,aI (m : Int)),(5,.v (.slice A1 n c1)),(6,aI (i : Int)),(18,.v (.pointer (some ⟨bb,ob + i * 1,none⟩)))] (iI x) rfl (fun _ _ _ ww hr => ldS_run (j := i) (row := [iI x]) (aJ (.slice Al l.length Cl) 1 (l.map az)) hr rfl (by kernel_rfl) (by simp) (by simp only [List.getElem?_map,hx]; rfl) (by kernel_rfl) hbb rfl) ?_
 refine aT [0,1,5,6,20] [(0,.v (.slice Al l.length Cl)),(1,aI (m : Int)),(5,.v (.slice A1 n c1)),(6,aI (i : Int)),(20,aB (decide (x < 0)))] <| kC (decide (x < 0)) (fun h3 => ?_) (fun h3 => ?_)
 have h3p := of_decide_eq_true h3
 refine bH <| kG <| dt 3 [0,1,5,6] [(0,.v (.slice Al l.length Cl)),(1,aI (m : Int)),(5,.v (.slice A1 n c1)),(6,aI (K6.wrap ((i : Int) + 1)))] <| fU (t' := [(0,.v (.slice Al l.length Cl)),(1,aI (m : Int)),(5,.v (.slice A1 n c1)),(6,aI ((i : Int) + 1))]) (by rw [show (K6.wrap ((i : Int) + 1)) = ((i : Int) + 1) from al (by omega) (by omega)]) ?_
 refine aT [0,1,5,6] [(0,.v (.slice Al l.length Cl)),(1,aI (m : Int)),(5,.v (.slice A1 n c1)),(6,aI ((i : Int) + 1))] ?_
 exact ⟨⟨(i + 1,out,A1,c1,n),⟨(by (try dsimp only); omega),(by rw [HP,hps,if_pos (by omega)]),(fun q hq => by have := hbd q hq; (try dsimp only); omega),hn,(by (try dsimp only); omega)⟩⟩,kF 0 0 [0,1,5,6],by show (fun (i : Nat) (out : List Pce) (A1 : Option Addr) (c1 : Nat) (n : Nat) => l.length - i) (i + 1) out A1 c1 n < l.length - i; (dsimp only; omega)⟩
 have h3p := of_decide_eq_false h3
 have hx0 : 0 ≤ x := by simp at h3; omega
 have hb1 : (af [x]).size = 1 := bstr_len [x]
 obtain ⟨p,hp⟩ : ∃ p : Pce,0 < n → out[n - 1]? = some p := if h : 0 < n then ⟨out[n - 1]'(by omega),fun _ => List.getElem?_eq_getElem _⟩ else ⟨⟨0,⟨#[]⟩⟩,fun h' => absurd h' h⟩
 refine xw_know (φ := ∃ g,0 < n → A1 = some ⟨g,0,none⟩) (fun _ _ _ _ hr => know_row hr (K := 2) (rs := out.map pC) 0 rfl (j := n - 1) (row := [iI p.off,.string p.text]) (fun hpos => by simp only [List.getElem?_map,hp hpos]; rfl)) ?_
 rintro ⟨gg,hgg⟩
 refine kK <| kQ <| aT [0,1,5,6,7] [(0,.v (.slice Al l.length Cl)),(1,aI (m : Int)),(5,.v (.slice A1 n c1)),(6,aI (i : Int)),(7,aI ((n : Nat) : Int))] <| kS <| dZ (α := {zz : Bool // (fun (bq : Bool) => (bq = true ↔ (0 < n ∧ p.off + (p.text.size : Int) = ((i - m : Nat) : Int)))) zz}) (fun zz => (fun (bq : Bool) => (⟨[(0,.v (.slice Al l.length Cl)),(1,aI (m : Int)),(5,.v (.slice A1 n c1)),(6,aI (i : Int)),(7,aI ((n : Nat) : Int)),(44,aB bq)],[],[],[a9 w.heap.size 89 2 (.slice A1 n c1) (out.map pC),aJ (.slice Al l.length Cl) 1 (l.map az)]⟩ : St)) zz.1) ?_ ?_
 refine bo [] (by kernel_rfl) (fun ρ σ => ?_)
 refine cJ [0,1,2] [25,0,1,5,6,7] 19 [(25,aB (decide (((n : Nat) : Int) > 0))),(0,.v (.slice Al l.length Cl)),(1,aI (m : Int)),(5,.v (.slice A1 n c1)),(6,aI (i : Int)),(7,aI ((n : Nat) : Int))] <| kY 25 (decide (((n : Nat) : Int) > 0)) (fun h4 => ?_) (fun h4 => ?_)
 have h4p := of_decide_eq_true h4
 have hpos : 0 < n := by simp at h4; omega
 have hpb := hbd p (List.mem_of_getElem? (hp hpos))
 refine cJ [3,4,5,9,10,11,17,18,19] [42,34,32,28,26,25,0,1,5,6,7] 10 [(42,aI (K6.wrap ((i : Int) - (m : Int)))),(34,aI (K6.wrap (((n : Nat) : Int) - 1))),(32,.v (.slice A1 n c1)),(28,aI (K6.wrap (((n : Nat) : Int) - 1))),(26,.v (.slice A1 n c1)),(25,aB true),(0,.v (.slice Al l.length Cl)),(1,aI (m : Int)),(5,.v (.slice A1 n c1)),(6,aI (i : Int)),(7,aI ((n : Nat) : Int))] <| gp (t := [(42,aI (K6.wrap ((i : Int) - (m : Int)))),(34,aI (K6.wrap (((n : Nat) : Int) - 1))),(32,.v (.slice A1 n c1)),(28,aI (K6.wrap (((n : Nat) : Int) - 1))),(26,.v (.slice A1 n c1)),(25,aB true),(0,.v (.slice Al l.length Cl)),(1,aI (m : Int)),(5,.v (.slice A1 n c1)),(6,aI (i : Int)),(7,aI ((n : Nat) : Int))]) (t' := [(42,aI ((i - m : Nat) : Int)),(34,aI ((n - 1 : Nat) : Int)),(32,.v (.slice A1 n c1)),(28,aI ((n - 1 : Nat) : Int)),(26,.v (.slice A1 n c1)),(25,aB true),(0,.v (.slice Al l.length Cl)),(1,aI (m : Int)),(5,.v (.slice A1 n c1)),(6,aI (i : Int)),(7,aI ((n : Nat) : Int))]) (by rw [show (K6.wrap (((n : Nat) : Int) - 1)) = ((n - 1 : Nat) : Int) from by rw [al (by omega) (by omega)]; omega,show (K6.wrap ((i : Int) - (m : Int))) = ((i - m : Nat) : Int) from by rw [al (by omega) (by omega)]; omega]) ?_
 refine kX 6 (.pointer (some ⟨gg,(n - 1) * 2,none⟩)) rfl (fun _ _ ww hA => ee (kd := .i64) (T := 35) (e := 89) (K := 2) (g := gg) (N := n) (cap := c1) (n - 1) (hgg hpos) hA rfl rfl (by kernel_rfl) (by kernel_rfl) (by kernel_rfl) (by omega) ww) ?_
 refine kX 7 (.pointer (some ⟨gg,(n - 1) * 2,none⟩)) rfl (fun _ _ ww hA => dM (sz := 1) (b := gg) (m := (n - 1) * 2) hA rfl Tryz.underlying89 rfl (by kernel_rfl) rfl (by kernel_rfl) rfl) ?_
 refine kX 12 (.pointer (some ⟨gg,(n - 1) * 2,none⟩)) rfl (fun _ _ ww hA => ee (kd := .i64) (T := 35) (e := 89) (K := 2) (g := gg) (N := n) (cap := c1) (n - 1) (hgg hpos) hA rfl rfl (by kernel_rfl) (by kernel_rfl) (by kernel_rfl) (by omega) ww) ?_
 refine kX 13 (.pointer (some ⟨gg,(n - 1) * 2 + 1,none⟩)) rfl (fun _ _ ww hA => dM (sz := 1) (b := gg) (m := (n - 1) * 2) hA rfl Tryz.underlying89 rfl (by kernel_rfl) rfl (by kernel_rfl) rfl) ?_
 refine kA [8,14] ⟨?_,?_⟩
 refine kSR 8 (iI p.off) rfl (fun _ _ ww hr => e6 (po := 0) (j := (n - 1)) (row := [iI p.off,.string p.text]) (a9 w.heap.size 89 2 (.slice A1 n c1) (out.map pC)) hr rfl (by kernel_rfl) (by simp) (by simp only [List.getElem?_map,hp hpos]; rfl) (by kernel_rfl) (hgg hpos) rfl rfl) ?_
 refine kA [14] <| kSR 14 (.string p.text) rfl (fun _ _ ww hr => e6 (po := 1) (j := (n - 1)) (row := [iI p.off,.string p.text]) (a9 w.heap.size 89 2 (.slice A1 n c1) (out.map pC)) hr rfl (by kernel_rfl) (by simp) (by simp only [List.getElem?_map,hp hpos]; rfl) (by kernel_rfl) (hgg hpos) rfl rfl) ?_
 refine cJ [15,16,20,21] [44,0,1,5,6,7] 0 [(44,aB ((K6.wrap (p.off + (p.text.size : Int))) == ((i - m : Nat) : Int))),(0,.v (.slice Al l.length Cl)),(1,aI (m : Int)),(5,.v (.slice A1 n c1)),(6,aI (i : Int)),(7,aI ((n : Nat) : Int))] <| gp (t := [(44,aB ((K6.wrap (p.off + (p.text.size : Int))) == ((i - m : Nat) : Int))),(0,.v (.slice Al l.length Cl)),(1,aI (m : Int)),(5,.v (.slice A1 n c1)),(6,aI (i : Int)),(7,aI ((n : Nat) : Int))]) (t' := [(44,aB ((p.off + (p.text.size : Int)) == ((i - m : Nat) : Int))),(0,.v (.slice Al l.length Cl)),(1,aI (m : Int)),(5,.v (.slice A1 n c1)),(6,aI (i : Int)),(7,aI ((n : Nat) : Int))]) (by rw [show (K6.wrap (p.off + (p.text.size : Int))) = (p.off + (p.text.size : Int)) from al (by omega) (by omega)]) ?_
 refine kZ ?_
 exact ⟨⟨((p.off + (p.text.size : Int)) == ((i - m : Nat) : Int)),⟨fun h => ⟨hpos,eq_of_beq h⟩,fun h => beq_iff_eq.2 h.2⟩⟩,kF 0 0 [0,1,5,6,7,44]⟩
 refine kSR 14 (.string p.text) rfl (fun _ _ ww hr => e6 (po := 1) (j := (n - 1)) (row := [iI p.off,.string p.text]) (a9 w.heap.size 89 2 (.slice A1 n c1) (out.map pC)) hr rfl (by kernel_rfl) (by simp) (by simp only [List.getElem?_map,hp hpos]; rfl) (by kernel_rfl) (hgg hpos) rfl rfl) ?_
 refine cJ [15] [38,30,42,25,0,1,5,6,7] 4 [(38,aI (p.text.size : Int)),(30,.v (.pointer (some ⟨gg,(n - 1) * 2,none⟩))),(42,aI ((i - m : Nat) : Int)),(25,aB true),(0,.v (.slice Al l.length Cl)),(1,aI (m : Int)),(5,.v (.slice A1 n c1)),(6,aI (i : Int)),(7,aI ((n : Nat) : Int))] <| kA [8] <| kSR 8 (iI p.off) rfl (fun _ _ ww hr => e6 (po := 0) (j := (n - 1)) (row := [iI p.off,.string p.text]) (a9 w.heap.size 89 2 (.slice A1 n c1) (out.map pC)) hr rfl (by kernel_rfl) (by simp) (by simp only [List.getElem?_map,hp hpos]; rfl) (by kernel_rfl) (hgg hpos) rfl rfl) ?_
 refine cJ [16,20,21] [44,0,1,5,6,7] 0 [(44,aB ((K6.wrap (p.off + (p.text.size : Int))) == ((i - m : Nat) : Int))),(0,.v (.slice Al l.length Cl)),(1,aI (m : Int)),(5,.v (.slice A1 n c1)),(6,aI (i : Int)),(7,aI ((n : Nat) : Int))] <| gp (t := [(44,aB ((K6.wrap (p.off + (p.text.size : Int))) == ((i - m : Nat) : Int))),(0,.v (.slice Al l.length Cl)),(1,aI (m : Int)),(5,.v (.slice A1 n c1)),(6,aI (i : Int)),(7,aI ((n : Nat) : Int))]) (t' := [(44,aB ((p.off + (p.text.size : Int)) == ((i - m : Nat) : Int))),(0,.v (.slice Al l.length Cl)),(1,aI (m : Int)),(5,.v (.slice A1 n c1)),(6,aI (i : Int)),(7,aI ((n : Nat) : Int))]) (by rw [show (K6.wrap (p.off + (p.text.size : Int))) = (p.off + (p.text.size : Int)) from al (by omega) (by omega)]) ?_
 refine kZ ?_
 exact ⟨⟨((p.off + (p.text.size : Int)) == ((i - m : Nat) : Int)),⟨fun h => ⟨hpos,eq_of_beq h⟩,fun h => beq_iff_eq.2 h.2⟩⟩,kF 0 0 [0,1,5,6,7,44]⟩
 have h4p := of_decide_eq_false h4
 have hn0 : n = 0 := by simp at h4; omega
 refine cJ [3,4,5,6,7,8,9,10,11,12,13,14,15,16,17,18,19,20,21] [44,0,1,5,6,7] 0 [(44,aB false),(0,.v (.slice Al l.length Cl)),(1,aI (m : Int)),(5,.v (.slice A1 n c1)),(6,aI (i : Int)),(7,aI ((n : Nat) : Int))] <| kZ ?_
 exact ⟨⟨(false),⟨fun h => (by cases h),fun h => (by omega)⟩⟩,kF 0 0 [0,1,5,6,7,44]⟩
 rintro ⟨bq,hbq⟩
 try dsimp only
 try dsimp only at hbq
 refine kC (bq) (fun h5 => ?_) (fun h5 => ?_)
 obtain ⟨hpos,heq⟩ := hbq.1 h5
 have hpb := hbd p (List.mem_of_getElem? (hp hpos))
 refine ed (α := Nat) (fun y => (fun (g7 : Nat) => (⟨[(0,.v (.slice Al l.length Cl)),(1,aI (m : Int)),(5,.v (.slice A1 n c1)),(6,aI (i : Int))],[],[],[a9 w.heap.size 89 2 (.slice A1 n c1) ((out.set (n - 1) ⟨p.off,p.text ++ (af ([x] : List Int))⟩).map pC),a9 w.heap.size 5 1 (.slice (some ⟨g7,0,none⟩) 1 1) (([x] : List Int).map bR),aJ (.slice Al l.length Cl) 1 (l.map az)]⟩ : St)) y) ?_ ?_
 refine bo [] (by kernel_rfl) (fun ρ σ => ?_)
 refine cJ [0,1,2,3,4,5,9,10] [55,54,50,48,47,45,0,1,5,6] 12 [(55,aI (i : Int)),(54,.v (.slice Al l.length Cl)),(50,aI (K6.wrap (((n : Nat) : Int) - 1))),(48,.v (.slice A1 n c1)),(47,aI (K6.wrap (((n : Nat) : Int) - 1))),(45,.v (.slice A1 n c1)),(0,.v (.slice Al l.length Cl)),(1,aI (m : Int)),(5,.v (.slice A1 n c1)),(6,aI (i : Int))] <| gp (t := [(55,aI (i : Int)),(54,.v (.slice Al l.length Cl)),(50,aI (K6.wrap (((n : Nat) : Int) - 1))),(48,.v (.slice A1 n c1)),(47,aI (K6.wrap (((n : Nat) : Int) - 1))),(45,.v (.slice A1 n c1)),(0,.v (.slice Al l.length Cl)),(1,aI (m : Int)),(5,.v (.slice A1 n c1)),(6,aI (i : Int))]) (t' := [(55,aI (i : Int)),(54,.v (.slice Al l.length Cl)),(50,aI ((n - 1 : Nat) : Int)),(48,.v (.slice A1 n c1)),(47,aI ((n - 1 : Nat) : Int)),(45,.v (.slice A1 n c1)),(0,.v (.slice Al l.length Cl)),(1,aI (m : Int)),(5,.v (.slice A1 n c1)),(6,aI (i : Int))]) (by rw [show (K6.wrap (((n : Nat) : Int) - 1)) = ((n - 1 : Nat) : Int) from by rw [al (by omega) (by omega)]; omega]) ?_
 refine kX 6 (.pointer (some ⟨gg,(n - 1) * 2,none⟩)) rfl (fun _ _ ww hA => ee (kd := .i64) (T := 35) (e := 89) (K := 2) (g := gg) (N := n) (cap := c1) (n - 1) (hgg hpos) hA rfl rfl (by kernel_rfl) (by kernel_rfl) (by kernel_rfl) (by omega) ww) ?_
 refine kX 7 (.pointer (some ⟨gg,(n - 1) * 2 + 1,none⟩)) rfl (fun _ _ ww hA => dM (sz := 1) (b := gg) (m := (n - 1) * 2) hA rfl Tryz.underlying89 rfl (by kernel_rfl) rfl (by kernel_rfl) rfl) ?_
 refine kX 11 (.pointer (some ⟨bb,ob + i * 1,none⟩)) rfl (fun _ _ ww hA => act_ixO (kd := .i64) (T := 76) (e := 3) (K := 1) (b := bb) (off := ob) (N := l.length) (cap := Cl) i hbb hA rfl rfl (by kernel_rfl) (by kernel_rfl) (by kernel_rfl) hlt ww) ?_
 refine kA [8,12] ⟨?_,?_⟩
 refine kSR 8 (.string p.text) rfl (fun _ _ ww hr => e6 (po := 1) (j := (n - 1)) (row := [iI p.off,.string p.text]) (a9 w.heap.size 89 2 (.slice A1 n c1) (out.map pC)) hr rfl (by kernel_rfl) (by simp) (by simp only [List.getElem?_map,hp hpos]; rfl) (by kernel_rfl) (hgg hpos) rfl rfl) ?_
 refine kA [12] <| kSR 12 (iI x) rfl (fun _ _ ww hr => ldS_run (j := i) (row := [iI x]) (aJ (.slice Al l.length Cl) 1 (l.map az)) hr rfl (by kernel_rfl) (by simp) (by simp only [List.getElem?_map,hx]; rfl) (by kernel_rfl) hbb rfl) ?_
 refine cJ [13] [58,53,47,45,0,1,5,6] 6 [(58,.v (.int .u8 (IntKind.u8.wrap x))),(53,.v (.string p.text)),(47,aI ((n - 1 : Nat) : Int)),(45,.v (.slice A1 n c1)),(0,.v (.slice Al l.length Cl)),(1,aI (m : Int)),(5,.v (.slice A1 n c1)),(6,aI (i : Int))] <| gp (t := [(58,.v (.int .u8 (IntKind.u8.wrap x))),(53,.v (.string p.text)),(47,aI ((n - 1 : Nat) : Int)),(45,.v (.slice A1 n c1)),(0,.v (.slice Al l.length Cl)),(1,aI (m : Int)),(5,.v (.slice A1 n c1)),(6,aI (i : Int))]) (t' := [(58,.v (.int .u8 x)),(53,.v (.string p.text)),(47,aI ((n - 1 : Nat) : Int)),(45,.v (.slice A1 n c1)),(0,.v (.slice Al l.length Cl)),(1,aI (m : Int)),(5,.v (.slice A1 n c1)),(6,aI (i : Int))]) (by rw [show (IntKind.u8.wrap x) = x from u8_id (by omega) (by omega)]) ?_
 refine kA [14] <| e5 14 rfl a8 (aH (e := 5) (K := 1) (bytes := 1) [.int .u8 x] (rs := ([x] : List Int).map bR) rfl rfl) ?_
 intro g7
 refine kA [15] <| kSR 15 (.string (af ([x] : List Int))) rfl (fun _ _ ww hr => dv (e := 5) ([x] : List Int) hr.1 rfl (by kernel_rfl) (by kernel_rfl) (by kernel_rfl) rfl (ax (hr.2.fact (a9 w.heap.size 5 1 (.slice (some ⟨g7,0,none⟩) 1 1) (([x] : List Int).map bR)) (by simp)).1)) ?_
 refine kX 16 (.string (p.text ++ (af ([x] : List Int)))) rfl (fun _ _ ww hA => co hA rfl (by kernel_rfl) (by kernel_rfl) (str_add (by first | omega | (simp only [ByteArray.size_extract]; omega)) ww)) ?_
 refine kX 17 (.pointer (some ⟨gg,(n - 1) * 2,none⟩)) rfl (fun _ _ ww hA => ee (kd := .i64) (T := 35) (e := 89) (K := 2) (g := gg) (N := n) (cap := c1) (n - 1) (hgg hpos) hA rfl rfl (by kernel_rfl) (by kernel_rfl) (by kernel_rfl) (by omega) ww) ?_
 refine kX 18 (.pointer (some ⟨gg,(n - 1) * 2 + 1,none⟩)) rfl (fun _ _ ww hA => dM (sz := 1) (b := gg) (m := (n - 1) * 2) hA rfl Tryz.underlying89 rfl (by kernel_rfl) rfl (by kernel_rfl) rfl) ?_
 refine kA [19] <| xs_hsG 19 gg rfl (by kernel_rfl) (by kernel_rfl) (by kernel_rfl) a8 (fun kk rr hk => by simp at hk) (hs_stR (g := gg) (B := w.heap.size) (e := 89) (K := 2) (N := n) (cap := c1) (rs := (out.map pC)) (rs' := (out.set (n - 1) ⟨p.off,p.text ++ (af ([x] : List Int))⟩).map pC) (v := (.string (p.text ++ (af ([x] : List Int))))) (i := 1) (off := (n - 1) * 2 + 1) (n - 1) 1 [iI p.off,.string p.text] (row' := [iI p.off,.string (p.text ++ (af ([x] : List Int)))]) (hgg hpos) rfl (by kernel_rfl) rfl (by kernel_rfl) (by kernel_rfl) (by kernel_rfl) (by kernel_rfl) (Nat.le_refl _) (by simp only [List.getElem?_map,hp hpos]; rfl) (by kernel_rfl) rfl (by rw [List.map_set]; rfl)) ?_
 refine kZ ?_
 exact ⟨(g7),kF 0 0 [0,1,5,6]⟩
 refine kSR 12 (iI x) rfl (fun _ _ ww hr => ldS_run (j := i) (row := [iI x]) (aJ (.slice Al l.length Cl) 1 (l.map az)) hr rfl (by kernel_rfl) (by simp) (by simp only [List.getElem?_map,hx]; rfl) (by kernel_rfl) hbb rfl) ?_
 refine cJ [13] [58,52,47,45,0,1,5,6] 7 [(58,.v (.int .u8 (IntKind.u8.wrap x))),(52,.v (.pointer (some ⟨gg,(n - 1) * 2 + 1,none⟩))),(47,aI ((n - 1 : Nat) : Int)),(45,.v (.slice A1 n c1)),(0,.v (.slice Al l.length Cl)),(1,aI (m : Int)),(5,.v (.slice A1 n c1)),(6,aI (i : Int))] <| gp (t := [(58,.v (.int .u8 (IntKind.u8.wrap x))),(52,.v (.pointer (some ⟨gg,(n - 1) * 2 + 1,none⟩))),(47,aI ((n - 1 : Nat) : Int)),(45,.v (.slice A1 n c1)),(0,.v (.slice Al l.length Cl)),(1,aI (m : Int)),(5,.v (.slice A1 n c1)),(6,aI (i : Int))]) (t' := [(58,.v (.int .u8 x)),(52,.v (.pointer (some ⟨gg,(n - 1) * 2 + 1,none⟩))),(47,aI ((n - 1 : Nat) : Int)),(45,.v (.slice A1 n c1)),(0,.v (.slice Al l.length Cl)),(1,aI (m : Int)),(5,.v (.slice A1 n c1)),(6,aI (i : Int))]) (by rw [show (IntKind.u8.wrap x) = x from u8_id (by omega) (by omega)]) ?_
 refine kA [8,14] ⟨?_,?_⟩
 refine kSR 8 (.string p.text) rfl (fun _ _ ww hr => e6 (po := 1) (j := (n - 1)) (row := [iI p.off,.string p.text]) (a9 w.heap.size 89 2 (.slice A1 n c1) (out.map pC)) hr rfl (by kernel_rfl) (by simp) (by simp only [List.getElem?_map,hp hpos]; rfl) (by kernel_rfl) (hgg hpos) rfl rfl) ?_
 refine kA [14] <| e5 14 rfl a8 (aH (e := 5) (K := 1) (bytes := 1) [.int .u8 x] (rs := ([x] : List Int).map bR) rfl rfl) ?_
 intro g10
 refine kA [15] <| kSR 15 (.string (af ([x] : List Int))) rfl (fun _ _ ww hr => dv (e := 5) ([x] : List Int) hr.1 rfl (by kernel_rfl) (by kernel_rfl) (by kernel_rfl) rfl (ax (hr.2.fact (a9 w.heap.size 5 1 (.slice (some ⟨g10,0,none⟩) 1 1) (([x] : List Int).map bR)) (by simp)).1)) ?_
 refine kX 16 (.string (p.text ++ (af ([x] : List Int)))) rfl (fun _ _ ww hA => co hA rfl (by kernel_rfl) (by kernel_rfl) (str_add (by first | omega | (simp only [ByteArray.size_extract]; omega)) ww)) ?_
 refine kX 17 (.pointer (some ⟨gg,(n - 1) * 2,none⟩)) rfl (fun _ _ ww hA => ee (kd := .i64) (T := 35) (e := 89) (K := 2) (g := gg) (N := n) (cap := c1) (n - 1) (hgg hpos) hA rfl rfl (by kernel_rfl) (by kernel_rfl) (by kernel_rfl) (by omega) ww) ?_
 refine kX 18 (.pointer (some ⟨gg,(n - 1) * 2 + 1,none⟩)) rfl (fun _ _ ww hA => dM (sz := 1) (b := gg) (m := (n - 1) * 2) hA rfl Tryz.underlying89 rfl (by kernel_rfl) rfl (by kernel_rfl) rfl) ?_
 refine kA [19] <| xs_hsG 19 gg rfl (by kernel_rfl) (by kernel_rfl) (by kernel_rfl) a8 (fun kk rr hk => by simp at hk) (hs_stR (g := gg) (B := w.heap.size) (e := 89) (K := 2) (N := n) (cap := c1) (rs := (out.map pC)) (rs' := (out.set (n - 1) ⟨p.off,p.text ++ (af ([x] : List Int))⟩).map pC) (v := (.string (p.text ++ (af ([x] : List Int))))) (i := 1) (off := (n - 1) * 2 + 1) (n - 1) 1 [iI p.off,.string p.text] (row' := [iI p.off,.string (p.text ++ (af ([x] : List Int)))]) (hgg hpos) rfl (by kernel_rfl) rfl (by kernel_rfl) (by kernel_rfl) (by kernel_rfl) (by kernel_rfl) (Nat.le_refl _) (by simp only [List.getElem?_map,hp hpos]; rfl) (by kernel_rfl) rfl (by rw [List.map_set]; rfl)) ?_
 refine kZ ?_
 exact ⟨(g10),kF 0 0 [0,1,5,6]⟩
 refine e5 14 rfl a8 (aH (e := 5) (K := 1) (bytes := 1) [.int .u8 x] (rs := ([x] : List Int).map bR) rfl rfl) ?_
 intro g11
 refine kA [8,15] ⟨?_,?_⟩
 refine kSR 8 (.string p.text) rfl (fun _ _ ww hr => e6 (po := 1) (j := (n - 1)) (row := [iI p.off,.string p.text]) (a9 w.heap.size 89 2 (.slice A1 n c1) (out.map pC)) hr rfl (by kernel_rfl) (by simp) (by simp only [List.getElem?_map,hp hpos]; rfl) (by kernel_rfl) (hgg hpos) rfl rfl) ?_
 refine kA [15] <| kSR 15 (.string (af ([x] : List Int))) rfl (fun _ _ ww hr => dv (e := 5) ([x] : List Int) hr.1 rfl (by kernel_rfl) (by kernel_rfl) (by kernel_rfl) rfl (ax (hr.2.fact (a9 w.heap.size 5 1 (.slice (some ⟨g11,0,none⟩) 1 1) (([x] : List Int).map bR)) (by simp)).1)) ?_
 refine kX 16 (.string (p.text ++ (af ([x] : List Int)))) rfl (fun _ _ ww hA => co hA rfl (by kernel_rfl) (by kernel_rfl) (str_add (by first | omega | (simp only [ByteArray.size_extract]; omega)) ww)) ?_
 refine kX 17 (.pointer (some ⟨gg,(n - 1) * 2,none⟩)) rfl (fun _ _ ww hA => ee (kd := .i64) (T := 35) (e := 89) (K := 2) (g := gg) (N := n) (cap := c1) (n - 1) (hgg hpos) hA rfl rfl (by kernel_rfl) (by kernel_rfl) (by kernel_rfl) (by omega) ww) ?_
 refine kX 18 (.pointer (some ⟨gg,(n - 1) * 2 + 1,none⟩)) rfl (fun _ _ ww hA => dM (sz := 1) (b := gg) (m := (n - 1) * 2) hA rfl Tryz.underlying89 rfl (by kernel_rfl) rfl (by kernel_rfl) rfl) ?_
 refine kA [19] <| xs_hsG 19 gg rfl (by kernel_rfl) (by kernel_rfl) (by kernel_rfl) a8 (fun kk rr hk => by simp at hk) (hs_stR (g := gg) (B := w.heap.size) (e := 89) (K := 2) (N := n) (cap := c1) (rs := (out.map pC)) (rs' := (out.set (n - 1) ⟨p.off,p.text ++ (af ([x] : List Int))⟩).map pC) (v := (.string (p.text ++ (af ([x] : List Int))))) (i := 1) (off := (n - 1) * 2 + 1) (n - 1) 1 [iI p.off,.string p.text] (row' := [iI p.off,.string (p.text ++ (af ([x] : List Int)))]) (hgg hpos) rfl (by kernel_rfl) rfl (by kernel_rfl) (by kernel_rfl) (by kernel_rfl) (by kernel_rfl) (Nat.le_refl _) (by simp only [List.getElem?_map,hp hpos]; rfl) (by kernel_rfl) rfl (by rw [List.map_set]; rfl)) ?_
 refine kZ ?_
 exact ⟨(g11),kF 0 0 [0,1,5,6]⟩
 refine kSR 15 (.string (af ([x] : List Int))) rfl (fun _ _ ww hr => dv (e := 5) ([x] : List Int) hr.1 rfl (by kernel_rfl) (by kernel_rfl) (by kernel_rfl) rfl (ax (hr.2.fact (a9 w.heap.size 5 1 (.slice (some ⟨g11,0,none⟩) 1 1) (([x] : List Int).map bR)) (by simp)).1)) ?_
 refine kA [8] <| kSR 8 (.string p.text) rfl (fun _ _ ww hr => e6 (po := 1) (j := (n - 1)) (row := [iI p.off,.string p.text]) (a9 w.heap.size 89 2 (.slice A1 n c1) (out.map pC)) hr rfl (by kernel_rfl) (by simp) (by simp only [List.getElem?_map,hp hpos]; rfl) (by kernel_rfl) (hgg hpos) rfl rfl) ?_
 refine kX 16 (.string (p.text ++ (af ([x] : List Int)))) rfl (fun _ _ ww hA => co hA rfl (by kernel_rfl) (by kernel_rfl) (str_add (by first | omega | (simp only [ByteArray.size_extract]; omega)) ww)) ?_
 refine kX 17 (.pointer (some ⟨gg,(n - 1) * 2,none⟩)) rfl (fun _ _ ww hA => ee (kd := .i64) (T := 35) (e := 89) (K := 2) (g := gg) (N := n) (cap := c1) (n - 1) (hgg hpos) hA rfl rfl (by kernel_rfl) (by kernel_rfl) (by kernel_rfl) (by omega) ww) ?_
 refine kX 18 (.pointer (some ⟨gg,(n - 1) * 2 + 1,none⟩)) rfl (fun _ _ ww hA => dM (sz := 1) (b := gg) (m := (n - 1) * 2) hA rfl Tryz.underlying89 rfl (by kernel_rfl) rfl (by kernel_rfl) rfl) ?_
 refine kA [19] <| xs_hsG 19 gg rfl (by kernel_rfl) (by kernel_rfl) (by kernel_rfl) a8 (fun kk rr hk => by simp at hk) (hs_stR (g := gg) (B := w.heap.size) (e := 89) (K := 2) (N := n) (cap := c1) (rs := (out.map pC)) (rs' := (out.set (n - 1) ⟨p.off,p.text ++ (af ([x] : List Int))⟩).map pC) (v := (.string (p.text ++ (af ([x] : List Int))))) (i := 1) (off := (n - 1) * 2 + 1) (n - 1) 1 [iI p.off,.string p.text] (row' := [iI p.off,.string (p.text ++ (af ([x] : List Int)))]) (hgg hpos) rfl (by kernel_rfl) rfl (by kernel_rfl) (by kernel_rfl) (by kernel_rfl) (by kernel_rfl) (Nat.le_refl _) (by simp only [List.getElem?_map,hp hpos]; rfl) (by kernel_rfl) rfl (by rw [List.map_set]; rfl)) ?_
 refine kZ ?_
 exact ⟨(g11),kF 0 0 [0,1,5,6]⟩
 intro g7
 refine kG <| kRF 3 [0,1,5,6] ⟨[(0,.v (.slice Al l.length Cl)),(1,aI (m : Int)),(5,.v (.slice A1 n c1)),(6,aI (K6.wrap ((i : Int) + 1)))],[],[],[a9 w.heap.size 89 2 (.slice A1 n c1) ((out.set (n - 1) ⟨p.off,p.text ++ (af ([x] : List Int))⟩).map pC),a9 w.heap.size 5 1 (.slice (some ⟨g7,0,none⟩) 1 1) (([x] : List Int).map bR),aJ (.slice Al l.length Cl) 1 (l.map az)]⟩ <| fU (t' := [(0,.v (.slice Al l.length Cl)),(1,aI (m : Int)),(5,.v (.slice A1 n c1)),(6,aI ((i : Int) + 1))]) (by rw [show (K6.wrap ((i : Int) + 1)) = ((i : Int) + 1) from al (by omega) (by omega)]) ?_
 refine aT [0,1,5,6] [(0,.v (.slice Al l.length Cl)),(1,aI (m : Int)),(5,.v (.slice A1 n c1)),(6,aI ((i : Int) + 1))] ?_
 have hadd : fk out (i - m) x = (out.set (n - 1) ⟨p.off,p.text ++ (af ([x] : List Int))⟩) := by first | (rw [addByte_set (p := p) (by rw [hn]; exact hp hpos) heq,hn]) | (exact if hz : 0 < n then addByte_far (p := p) (by rw [hn]; exact hp hz) (fun e => heqn ⟨hz,e⟩) else addByte_nil (by omega))
 exact ⟨⟨(i + 1,(out.set (n - 1) ⟨p.off,p.text ++ (af ([x] : List Int))⟩),A1,c1,n),⟨(by (try dsimp only); omega),(by rw [HP,hps,if_neg (by omega),hadd]),(by rw [← hadd]; intro q hq; have := addByte_bd hbd q hq; (try dsimp only); omega),(by simp [hn]),(by (try dsimp only); (try simp only [List.length_append,List.length_cons,List.length_nil]); omega)⟩⟩,eW [0,2] <| kF 0 0 [0,1,5,6],by show (fun (i : Nat) (out : List Pce) (A1 : Option Addr) (c1 : Nat) (n : Nat) => l.length - i) (i + 1) (out.set (n - 1) ⟨p.off,p.text ++ (af ([x] : List Int))⟩) A1 c1 n < l.length - i; (dsimp only; omega)⟩
 have heqn : ¬ (0 < n ∧ p.off + (p.text.size : Int) = ((i - m : Nat) : Int)) := fun e => by rw [hbq.2 e] at h5; cases h5
 refine kG <| kOS 6 [0,1,5,6,64,67,68,69] [(0,.v (.slice Al l.length Cl)),(1,aI (m : Int)),(5,.v (.slice A1 n c1)),(6,aI (i : Int)),(64,.v (.slice A1 n c1)),(67,aI (K6.wrap ((i : Int) - (m : Int)))),(68,.v (.slice Al l.length Cl)),(69,aI (i : Int))] (.pointer (some ⟨bb,ob + i * 1,none⟩)) rfl (fun _ _ _ ww hr => act_ixO (kd := .i64) (T := 76) (e := 3) (K := 1) (b := bb) (off := ob) (N := l.length) (cap := Cl) i hbb hr.1 rfl rfl (by kernel_rfl) (by kernel_rfl) (by kernel_rfl) hlt ww) ?_
 refine kOS 0 [0,1,5,6,64,67,70] [(0,.v (.slice Al l.length Cl)),(1,aI (m : Int)),(5,.v (.slice A1 n c1)),(6,aI (i : Int)),(64,.v (.slice A1 n c1)),(67,aI (K6.wrap ((i : Int) - (m : Int)))),(70,.v (.pointer (some ⟨bb,ob + i * 1,none⟩)))] (iI x) rfl (fun _ _ _ ww hr => ldS_run (j := i) (row := [iI x]) (aJ (.slice Al l.length Cl) 1 (l.map az)) hr rfl (by kernel_rfl) (by simp) (by simp only [List.getElem?_map,hx]; rfl) (by kernel_rfl) hbb rfl) ?_
 refine kHS 1 [0,1,5,6,64,67,72] [(0,.v (.slice Al l.length Cl)),(1,aI (m : Int)),(5,.v (.slice A1 n c1)),(6,aI (i : Int)),(64,.v (.slice A1 n c1)),(67,aI (K6.wrap ((i : Int) - (m : Int)))),(72,.v (.int .u8 (IntKind.u8.wrap x)))] rfl (aH (e := 5) (K := 1) (bytes := 1) [.int .u8 (IntKind.u8.wrap x)] (rs := ([IntKind.u8.wrap x] : List Int).map bR) rfl rfl) ?_
 intro g12
 refine kOS 0 [0,1,5,6,64,67,73] [(0,.v (.slice Al l.length Cl)),(1,aI (m : Int)),(5,.v (.slice A1 n c1)),(6,aI (i : Int)),(64,.v (.slice A1 n c1)),(67,aI (K6.wrap ((i : Int) - (m : Int)))),(73,.v (.slice (some ⟨g12,0,none⟩) 1 1))] (.string (af ([IntKind.u8.wrap x] : List Int))) rfl (fun _ _ _ ww hr => dv (e := 5) ([IntKind.u8.wrap x] : List Int) hr.1 rfl (by kernel_rfl) (by kernel_rfl) (by kernel_rfl) rfl (ax (hr.2.fact (a9 w.heap.size 5 1 (.slice (some ⟨g12,0,none⟩) 1 1) (([IntKind.u8.wrap x] : List Int).map bR)) (by simp)).1)) ?_
 refine kOS 0 [0,1,5,6,64,67,74] [(0,.v (.slice Al l.length Cl)),(1,aI (m : Int)),(5,.v (.slice A1 n c1)),(6,aI (i : Int)),(64,.v (.slice A1 n c1)),(67,aI (K6.wrap ((i : Int) - (m : Int)))),(74,.v (.string (af ([IntKind.u8.wrap x] : List Int))))] (.agg (pceL (⟨K6.wrap ((i : Int) - (m : Int)),af ([IntKind.u8.wrap x] : List Int)⟩ : Pce)).toArray) rfl (fun _ _ _ ww hr => bn [(0,iI (K6.wrap ((i : Int) - (m : Int)))),(1,.string (af ([IntKind.u8.wrap x] : List Int)))] hr.1 rfl (by kernel_rfl) (by kernel_rfl) ww) ?_
 refine kHS 0 [0,1,5,6,64,75] [(0,.v (.slice Al l.length Cl)),(1,aI (m : Int)),(5,.v (.slice A1 n c1)),(6,aI (i : Int)),(64,.v (.slice A1 n c1)),(75,.v (.agg (pceL (⟨K6.wrap ((i : Int) - (m : Int)),af ([IntKind.u8.wrap x] : List Int)⟩ : Pce)).toArray))] rfl (aH (e := 89) (K := 2) (bytes := 24) [.agg (pceL (⟨K6.wrap ((i : Int) - (m : Int)),af ([IntKind.u8.wrap x] : List Int)⟩ : Pce)).toArray] (rs := ([⟨K6.wrap ((i : Int) - (m : Int)),af ([IntKind.u8.wrap x] : List Int)⟩] : List Pce).map pC) rfl rfl) ?_
 intro g13
 refine kHS 0 [0,1,5,6,64,76] [(0,.v (.slice Al l.length Cl)),(1,aI (m : Int)),(5,.v (.slice A1 n c1)),(6,aI (i : Int)),(64,.v (.slice A1 n c1)),(76,.v (.slice (some ⟨g13,0,none⟩) 1 1))] rfl (aE (e := 89) (K := 2) (bytes := 24) (i := 2) (q := (out ++ ([⟨K6.wrap ((i : Int) - (m : Int)),af ([IntKind.u8.wrap x] : List Int)⟩] : List Pce)).length) (new := ([⟨K6.wrap ((i : Int) - (m : Int)),af ([IntKind.u8.wrap x] : List Int)⟩] : List Pce).map pC) (rs' := (out ++ ([⟨K6.wrap ((i : Int) - (m : Int)),af ([IntKind.u8.wrap x] : List Int)⟩] : List Pce)).map pC) rfl rfl rfl rfl (by kernel_rfl) (by kernel_rfl) (by kernel_rfl) rfl (by simp) (by rw [List.map_append]) (by simp) (fun ww hf => (ax (hf (a9 w.heap.size 89 2 (.slice (some ⟨g13,0,none⟩) 1 1) (([⟨K6.wrap ((i : Int) - (m : Int)),af ([IntKind.u8.wrap x] : List Int)⟩] : List Pce).map pC)) (by simp)))) (by intro r hr; obtain ⟨x,hx,rfl⟩ := List.mem_map.1 hr; exact ⟨rfl,by simp [pC,Value.oneCell']⟩) (by (try simp only [List.length_map,List.length_append,List.length_cons,List.length_nil,List.length_take,List.length_drop,maxLen]); omega) (by (try simp only [List.length_map,List.length_append,List.length_cons,List.length_nil,List.length_take,List.length_drop,maxLen]); omega)) ?_
 rintro ⟨v14a,v14c⟩
 refine dt 1 [0,1,5,6] [(0,.v (.slice Al l.length Cl)),(1,aI (m : Int)),(5,.v (.slice v14a ((out ++ ([⟨K6.wrap ((i : Int) - (m : Int)),af ([IntKind.u8.wrap x] : List Int)⟩] : List Pce)).length) v14c)),(6,aI (i : Int))] <| xl_eq (st' := ⟨[(0,.v (.slice Al l.length Cl)),(1,aI (m : Int)),(5,.v (.slice v14a ((out ++ ([⟨((i - m : Nat) : Int),af ([x] : List Int)⟩] : List Pce)).length) v14c)),(6,aI (i : Int))],[],[],[a9 w.heap.size 89 2 (.slice v14a ((out ++ ([⟨((i - m : Nat) : Int),af ([x] : List Int)⟩] : List Pce)).length) v14c) ((out ++ ([⟨((i - m : Nat) : Int),af ([x] : List Int)⟩] : List Pce)).map pC),a9 w.heap.size 89 2 (.slice (some ⟨g13,0,none⟩) 1 1) (([⟨((i - m : Nat) : Int),af ([x] : List Int)⟩] : List Pce).map pC),a9 w.heap.size 5 1 (.slice (some ⟨g12,0,none⟩) 1 1) (([x] : List Int).map bR),aJ (.slice Al l.length Cl) 1 (l.map az)]⟩) (by rw [show (K6.wrap ((i : Int) - (m : Int))) = ((i - m : Nat) : Int) from by rw [al (by omega) (by omega)]; omega,show (IntKind.u8.wrap x) = x from u8_id (by omega) (by omega)] <;> rfl) ?_
 refine aT [0,1,5,6] [(0,.v (.slice Al l.length Cl)),(1,aI (m : Int)),(5,.v (.slice v14a ((out ++ ([⟨((i - m : Nat) : Int),af ([x] : List Int)⟩] : List Pce)).length) v14c)),(6,aI (i : Int))] <| kG <| dt 3 [0,1,5,6] [(0,.v (.slice Al l.length Cl)),(1,aI (m : Int)),(5,.v (.slice v14a ((out ++ ([⟨((i - m : Nat) : Int),af ([x] : List Int)⟩] : List Pce)).length) v14c)),(6,aI (K6.wrap ((i : Int) + 1)))] <| fU (t' := [(0,.v (.slice Al l.length Cl)),(1,aI (m : Int)),(5,.v (.slice v14a ((out ++ ([⟨((i - m : Nat) : Int),af ([x] : List Int)⟩] : List Pce)).length) v14c)),(6,aI ((i : Int) + 1))]) (by rw [show (K6.wrap ((i : Int) + 1)) = ((i : Int) + 1) from al (by omega) (by omega)]) ?_
 refine aT [0,1,5,6] [(0,.v (.slice Al l.length Cl)),(1,aI (m : Int)),(5,.v (.slice v14a ((out ++ ([⟨((i - m : Nat) : Int),af ([x] : List Int)⟩] : List Pce)).length) v14c)),(6,aI ((i : Int) + 1))] ?_
 have hadd : fk out (i - m) x = (out ++ ([⟨((i - m : Nat) : Int),af ([x] : List Int)⟩] : List Pce)) := by first | (rw [addByte_set (p := p) (by rw [hn]; exact hp hpos) heq,hn]) | (exact if hz : 0 < n then addByte_far (p := p) (by rw [hn]; exact hp hz) (fun e => heqn ⟨hz,e⟩) else addByte_nil (by omega))
 exact ⟨⟨(i + 1,(out ++ ([⟨((i - m : Nat) : Int),af ([x] : List Int)⟩] : List Pce)),v14a,v14c,(out ++ ([⟨((i - m : Nat) : Int),af ([x] : List Int)⟩] : List Pce)).length),⟨(by (try dsimp only); omega),(by rw [HP,hps,if_neg (by omega),hadd]),(by rw [← hadd]; intro q hq; have := addByte_bd hbd q hq; (try dsimp only); omega),(by simp [hn]),(by (try dsimp only); (try simp only [List.length_append,List.length_cons,List.length_nil]); omega)⟩⟩,eW [0,3] <| kF 0 0 [0,1,5,6],by show (fun (i : Nat) (out : List Pce) (A1 : Option Addr) (c1 : Nat) (n : Nat) => l.length - i) (i + 1) (out ++ ([⟨((i - m : Nat) : Int),af ([x] : List Int)⟩] : List Pce)) v14a v14c ((out ++ ([⟨((i - m : Nat) : Int),af ([x] : List Int)⟩] : List Pce)).length) < l.length - i; (dsimp only; omega)⟩
 have h2p := of_decide_eq_false h2
 have hge : i = l.length := by simp at h2; omega
 rw [hge,List.drop_length,gL] at HP
 refine bH <| kQ <| aT [4] [(4,.v (.slice A1 n c1))] <| kR ?_
 have hmod : gL [] 0 (l.drop m) = out := by exact HP
 exact ⟨[.slice A1 n c1],by kernel_rfl,fun w' hb hf ha => by rw [hmod,hn]; exact xo1 ((A1,c1)) rfl rfl (pW (hf _ m0) hB) hb⟩
theorem ysArrived_c (r : Rcv) (r_heldV : Value) (seq : Int) (text : ByteArray) (fin : Bool) (w : World) (hl_r_heldV : Sl w r_heldV 2 (r.held.map pC)) (hkn : r.held.length ≤ 1048576) (hm : ∀ p ∈ r.held, p.text.size ≤ 1048576) (hsz : r.data.size ≤ 4611686018427387904) (hts : text.size ≤ 4611686018427387904) (B : Nat) (hB : B ≤ w.heap.size) : Calls Tryz.prog 117 #[.agg (ag r r_heldV).toArray, iI seq, .string text, .bool fin] w fun e w' => XRs w w' e (α := Option Addr × Nat) (fun y => .agg (ag (ae r seq text fin) (.slice y.1 ((ae r seq text fin).held.length) y.2)).toArray) (fun y => [a9 B 89 2 (.slice y.1 ((ae r seq text fin).held.length) y.2) ((ae r seq text fin).held.map pC)]) := by
 obtain ⟨Arh,Crh,hvrh⟩ := hl_r_heldV.form
 rw [List.length_map] at hvrh; subst hvrh
 have hnrh := hl_r_heldV.len; rw [List.length_map] at hnrh
 have hqrh := Sl.capLe hl_r_heldV
 refine cn (args := [.agg (ag r (.slice Arh r.held.length Crh)).toArray,iI seq,.string text,.bool fin]) (fn := Tryz.f117) [aJ (.slice Arh r.held.length Crh) 2 (r.held.map pC)] Tryz.func117 rfl Tryz.ntmps117 rfl (by simp only [List.mem_cons,List.not_mem_nil,or_false,forall_eq_or_imp,forall_eq]; exact ⟨rfl,hl_r_heldV⟩) ?_
 refine kQ <| cm [1,2,3,4,8] ⟨[(1,aI seq),(2,.v (.string text)),(3,aB fin),(4,.p 0 0),(8,.p 1 0)],[⟨37,ag r (.slice Arh r.held.length Crh)⟩,⟨37,eD⟩],[],[aJ (.slice Arh r.held.length Crh) 2 (r.held.map pC)]⟩ <| kQ <| dR 1 [1,2,3,4,8,17] [(17,.v (.agg (ag r (.slice Arh r.held.length Crh)).toArray))] 51 [.agg (ag r (.slice Arh r.held.length Crh)).toArray] (some 18) rfl (cb fun ww hw hf => gw r (.slice Arh r.held.length Crh) ww (hf _ m0) (by assumption) w.heap.size hw) ?_
 rintro ⟨v1a,v1c⟩
 refine gk [1,2,3,4,8,9] [(9,.p 2 0)] [⟨37,ag r (.slice v1a r.held.length v1c)⟩] <| kS <| kQ <| dR 1 [1,2,3,4,8,9,19] [(19,.v (.agg (ag r (.slice Arh r.held.length Crh)).toArray))] 66 [.agg (ag r (.slice Arh r.held.length Crh)).toArray] (some 20) rfl (aA fun ww hf => gy r (.slice Arh r.held.length Crh) ww (hf _ m1) (by assumption) (by omega)) ?_
 intro _
 refine di 2 [1,2,3,4,8,9,22] [(22,aB (!(rO r)))] <| kP 22 (!(rO r)) (fun h2 => ?_) (fun h2 => ?_)
 have h2n := bS h2
 refine aW [1,2,3,4,8,9,25] [(25,aB true)] <| kT <| kQ <| bC [8] [(8,.p 1 0)] 1 ⟨37,ag r (.slice v1a r.held.length v1c)⟩ ?_
 refine kR ?_
 have hmod : ae r seq text fin = r := by first | exact eS hrk (by assumption) (by rw [← hall,← hnf]; omega) | (unfold ae; rw [if_neg (by grind)]; done) | (unfold ae; rw [if_pos (by grind),← hall,← hnf,← hg2,← hfp]; first | (rw [if_pos (by omega)]; done) | (rw [if_neg (by omega),if_pos (by first | omega | simp_all)]; done) | (rw [if_neg (by omega),if_neg (by first | omega | simp_all)]; done))
 exact ⟨[.agg (ag r (.slice v1a r.held.length v1c)).toArray],by kernel_rfl,fun w' hb hf ha => by rw [hmod]; exact xo1 ((v1a,v1c)) rfl rfl (pW (hf _ m0) hB) hb⟩
 have h2n := aF h2
 have hrk := h2n
 obtain ⟨hf0,hf1,hf2,hf3,hf4,hheld⟩ := rok_facts h2n
 have hwb := ff r
 have hN := slotsOf_len r
 have hsqt := seqAdd_in seq (text.size : Int)
 refine aW [1,2,3,4,8,9,25] [(25,aB r.done)] <| kC (r.done) (fun h3 => ?_) (fun h3 => ?_)
 refine kQ <| bC [8] [(8,.p 1 0)] 1 ⟨37,ag r (.slice v1a r.held.length v1c)⟩ <| kR ?_
 have hmod : ae r seq text fin = r := by first | exact eS hrk (by assumption) (by rw [← hall,← hnf]; omega) | (unfold ae; rw [if_neg (by grind)]; done) | (unfold ae; rw [if_pos (by grind),← hall,← hnf,← hg2,← hfp]; first | (rw [if_pos (by omega)]; done) | (rw [if_neg (by omega),if_pos (by first | omega | simp_all)]; done) | (rw [if_neg (by omega),if_neg (by first | omega | simp_all)]; done))
 exact ⟨[.agg (ag r (.slice v1a r.held.length v1c)).toArray],by kernel_rfl,fun w' hb hf ha => by rw [hmod]; exact xo1 ((v1a,v1c)) rfl rfl (pW (hf _ m0) hB) hb⟩
 refine kK <| kQ <| dR 1 [1,2,3,4,8,9,27] [(27,.v (.agg (ag r (.slice Arh r.held.length Crh)).toArray))] 92 [.agg (ag r (.slice Arh r.held.length Crh)).toArray] (some 28) rfl (aA fun ww hf => eX r.next r.data r.held (.slice Arh r.held.length Crh) r.fin r.done ww (by omega)) ?_
 intro _
 refine aW [1,2,3,4,8,9,10] [(10,aI (wO r))] <| kQ <| dR 1 [1,2,3,4,8,9,10,29] [(29,.v (.agg (ag r (.slice Arh r.held.length Crh)).toArray))] 129 [.agg (ag r (.slice Arh r.held.length Crh)).toArray] (some 30) rfl (cb fun ww hw hf => yl18Slots_c r (.slice Arh r.held.length Crh) ww (hf _ m1) (by assumption) (by assumption) w.heap.size hw) ?_
 rintro ⟨v4a,v4c⟩
 refine aW [1,2,3,4,8,9,10,11] [(11,.v (.slice v4a ((aY r).length) v4c))] <| kS <| kQ <| aW [1,2,3,4,8,9,10,11,12] [(12,aI 0)] ?_
 refine ao <| xw_know (φ := ∃ g,True → v4a = some ⟨g,0,none⟩) (fun _ _ _ _ hr => know_row hr (K := 1) (rs := (aY r).map az) 0 rfl (j := 0) (row := az ((aY r)[0]'(by omega))) (fun _ => by rw [List.getElem?_map,List.getElem?_eq_getElem (by omega)]; rfl)) ?_
 rintro ⟨gg,hgg⟩
 refine bc (α := {x : Nat × List Int // (fun (i : Nat) (sl : List Int) => i ≤ text.size ∧ sl.length = 33 ∧ sl = gY r seq text (aY r) i) x.1 x.2}) (fun x => (fun (i : Nat) (sl : List Int) => (⟨[(1,aI seq),(2,.v (.string text)),(3,aB fin),(4,.p 0 0),(8,.p 1 0),(9,.p 2 0),(10,aI (wO r)),(11,.v (.slice v4a ((aY r).length) v4c)),(12,aI (i : Int))],[⟨37,ag r (.slice Arh r.held.length Crh)⟩,⟨37,eD⟩,⟨37,ag r (.slice v1a r.held.length v1c)⟩],[],[a9 w.heap.size 3 1 (.slice v4a ((aY r).length) v4c) (sl.map az),a9 w.heap.size 89 2 (.slice v1a r.held.length v1c) (r.held.map pC),aJ (.slice Arh r.held.length Crh) 2 (r.held.map pC)]⟩ : St)) x.1.1 x.1.2) (fun x => (fun (i : Nat) (sl : List Int) => text.size - i) x.1.1 x.1.2) ⟨(0,(aY r)),⟨Nat.zero_le _,hN,rfl⟩⟩ (eW [0,1,2] <| kF 3 0 [1,2,3,4,8,9,10,11,12]) ?_
 rintro ⟨⟨i,sl⟩,hi,hl,HS⟩
 try dsimp only
 try dsimp only at hi hl HS
 refine kS <| kQ <| aT [1,2,3,4,8,9,10,11,12,34] [(1,aI seq),(2,.v (.string text)),(3,aB fin),(4,.p 0 0),(8,.p 1 0),(9,.p 2 0),(10,aI (wO r)),(11,.v (.slice v4a ((aY r).length) v4c)),(12,aI (i : Int)),(34,aB (decide ((i : Int) < (text.size : Int))))] <| kC (decide ((i : Int) < (text.size : Int))) (fun h5 => ?_) (fun h5 => ?_)
 have h5p := of_decide_eq_true h5
 have hlti : i < text.size := by simpa using h5
 have hbt := gT text i
 have hsq := seqAdd_in seq (i : Int)
 refine kK <| kS <| ao <| kS <| bo [] (by kernel_rfl) (fun ρ σ => ?_)
 refine cJ [0,1,3,4] [41,38,37,1,2,3,4,8,9,10,11,12] 4 [(41,aI r.next),(38,aI (i : Int)),(37,aI seq),(1,aI seq),(2,.v (.string text)),(3,aB fin),(4,.p 0 0),(8,.p 1 0),(9,.p 2 0),(10,aI (wO r)),(11,.v (.slice v4a ((aY r).length) v4c)),(12,aI (i : Int))] <| kA [2] <| du 2 96 [iI seq,iI (i : Int)] (some 39) rfl (c6 fun ww hf => bM seq (i : Int) ww ) ?_
 intro _
 refine cJ [5] [42,1,2,3,4,8,9,10,11,12] 2 [(42,aI (K6.wrap ((sA seq (i : Int)) - r.next))),(1,aI seq),(2,.v (.string text)),(3,aB fin),(4,.p 0 0),(8,.p 1 0),(9,.p 2 0),(10,aI (wO r)),(11,.v (.slice v4a ((aY r).length) v4c)),(12,aI (i : Int))] <| xe_nv [42,1,2,3,4,8,9,10,11,12] [(42,aI (K6.wrap ((sA seq (i : Int)) - r.next)))] [(42,aI ((sA seq (i : Int)) - r.next))] (by rw [show (K6.wrap ((sA seq (i : Int)) - r.next)) = ((sA seq (i : Int)) - r.next) from al (by omega) (by omega)]) (by kernel_rfl) ?_
 refine kA [6] <| du 6 112 [iI ((sA seq (i : Int)) - r.next)] (some 43) rfl (c6 fun ww hf => fK ((sA seq (i : Int)) - r.next) ww ) ?_
 intro _
 refine xe_nv [43,42,1,2,3,4,8,9,10,11,12] [(43,aI (((sA seq (i : Int)) - r.next) % 4294967296))] [(43,aI ((d6 r seq i : Nat) : Int))] (by rw [show (((sA seq (i : Int)) - r.next) % 4294967296) = ((d6 r seq i : Nat) : Int) from offN_eq r seq i]) (by kernel_rfl) ?_
 refine cJ [7] [13,1,2,3,4,8,9,10,11,12] 0 [(13,aI ((d6 r seq i : Nat) : Int)),(1,aI seq),(2,.v (.string text)),(3,aB fin),(4,.p 0 0),(8,.p 1 0),(9,.p 2 0),(10,aI (wO r)),(11,.v (.slice v4a ((aY r).length) v4c)),(12,aI (i : Int))] <| kZ <| kQ <| di 4 [1,2,3,4,8,9,10,11,12,13,47] [(47,aB (decide (((d6 r seq i : Nat) : Int) < (wO r))))] ?_
 refine kP 47 (decide (((d6 r seq i : Nat) : Int) < (wO r))) (fun h6 => ?_) (fun h6 => ?_)
 have h6p := of_decide_eq_true h6
 obtain ⟨x,hx⟩ : ∃ x,sl[d6 r seq i]? = some x := ⟨_,List.getElem?_eq_getElem (by omega)⟩
 have hsx := slotAt_of hx
 refine di 4 [1,2,3,4,8,9,10,11,12,13,47,51] [(47,aB true),(51,aB (decide (r.fin < 0)))] <| kP 51 (decide (r.fin < 0)) (fun h7 => ?_) (fun h7 => ?_)
 have h7p := of_decide_eq_true h7
 refine gc 9 [1,2,3,4,8,9,10,11,12,13,58,59,60] [(58,aB true),(59,.v (.slice v4a ((aY r).length) v4c)),(60,aI ((d6 r seq i : Nat) : Int))] (.pointer (some ⟨gg,(d6 r seq i) * 1,none⟩)) rfl (fun _ _ _ ww hr => ee (kd := .i64) (T := 76) (e := 3) (K := 1) (g := gg) (N := ((aY r).length)) (cap := v4c) (d6 r seq i) (hgg trivial) hr.1 rfl rfl (by kernel_rfl) (by kernel_rfl) (by kernel_rfl) (by omega) ww) ?_
 refine gc 0 [1,2,3,4,8,9,10,11,12,13,58,61] [] (iI x) rfl (fun _ _ _ ww hr => e6 (po := 0) (j := (d6 r seq i)) (row := [iI x]) (a9 w.heap.size 3 1 (.slice v4a ((aY r).length) v4c) (sl.map az)) hr rfl (by kernel_rfl) (by simp) (by simp only [List.getElem?_map,hx]; rfl) (by kernel_rfl) (hgg trivial) rfl rfl) ?_
 refine aW [1,2,3,4,8,9,10,11,12,13,64] [(64,aB (decide (x < 0)))] <| kC (decide (x < 0)) (fun h8 => ?_) (fun h8 => ?_)
 have h8p := of_decide_eq_true h8
 refine kG <| gc 4 [1,2,3,4,8,9,10,11,12,65,66,67,68] [(65,.v (.slice v4a ((aY r).length) v4c)),(66,aI ((d6 r seq i : Nat) : Int)),(67,.v (.string text)),(68,aI (i : Int))] (.int .u8 (cz text i)) rfl (fun _ _ _ ww hr => act_tix (kd := .i64) (t := text) i hr.1 rfl rfl (by kernel_rfl) (by kernel_rfl) hlti ww) ?_
 refine gc 1 [1,2,3,4,8,9,10,11,12,65,66,70] [(70,aI (K6.wrap (cz text i)))] (.pointer (some ⟨gg,(d6 r seq i) * 1,none⟩)) rfl (fun _ _ _ ww hr => ee (kd := .i64) (T := 76) (e := 3) (K := 1) (g := gg) (N := ((aY r).length)) (cap := v4c) (d6 r seq i) (hgg trivial) hr.1 rfl rfl (by kernel_rfl) (by kernel_rfl) (by kernel_rfl) (by omega) ww) ?_
 refine xl_hs 0 [1,2,3,4,8,9,10,11,12,70,71] ⟨[(1,aI seq),(2,.v (.string text)),(3,aB fin),(4,.p 0 0),(8,.p 1 0),(9,.p 2 0),(10,aI (wO r)),(11,.v (.slice v4a ((aY r).length) v4c)),(12,aI (i : Int)),(70,aI (K6.wrap (cz text i))),(71,.v (.pointer (some ⟨gg,(d6 r seq i) * 1,none⟩)))],[⟨37,ag r (.slice Arh r.held.length Crh)⟩,⟨37,eD⟩,⟨37,ag r (.slice v1a r.held.length v1c)⟩],[],[a9 w.heap.size 3 1 (.slice v4a ((aY r).length) v4c) (sl.map az),a9 w.heap.size 89 2 (.slice v1a r.held.length v1c) (r.held.map pC),aJ (.slice Arh r.held.length Crh) 2 (r.held.map pC)]⟩ (by kernel_rfl) rfl (by kernel_rfl) rfl (by kernel_rfl) (HSg.hs (hs_stR (g := gg) (B := w.heap.size) (e := 3) (K := 1) (N := ((aY r).length)) (cap := v4c) (rs := (sl.map az)) (rs' := (sl.set (d6 r seq i) (K6.wrap (cz text i))).map az) (v := (iI (K6.wrap (cz text i)))) (i := 0) (off := (d6 r seq i) * 1) (d6 r seq i) 0 [iI x] (row' := [iI (K6.wrap (cz text i))]) (hgg trivial) rfl (by kernel_rfl) rfl (by kernel_rfl) (by kernel_rfl) (by kernel_rfl) (by kernel_rfl) (Nat.le_refl _) (by simp only [List.getElem?_map,hx]; rfl) (by kernel_rfl) rfl (by rw [List.map_set]; rfl))) ?_
 refine dt 0 [1,2,3,4,8,9,10,11,12] [(1,aI seq),(2,.v (.string text)),(3,aB fin),(4,.p 0 0),(8,.p 1 0),(9,.p 2 0),(10,aI (wO r)),(11,.v (.slice v4a ((aY r).length) v4c)),(12,aI (i : Int))] <| xl_eq (st' := ⟨[(1,aI seq),(2,.v (.string text)),(3,aB fin),(4,.p 0 0),(8,.p 1 0),(9,.p 2 0),(10,aI (wO r)),(11,.v (.slice v4a ((aY r).length) v4c)),(12,aI (i : Int))],[⟨37,ag r (.slice Arh r.held.length Crh)⟩,⟨37,eD⟩,⟨37,ag r (.slice v1a r.held.length v1c)⟩],[],[a9 w.heap.size 3 1 (.slice v4a ((aY r).length) v4c) ((sl.set (d6 r seq i) (cz text i)).map az),a9 w.heap.size 89 2 (.slice v1a r.held.length v1c) (r.held.map pC),aJ (.slice Arh r.held.length Crh) 2 (r.held.map pC)]⟩) (by rw [show (K6.wrap (cz text i)) = (cz text i) from al (by omega) (by omega)] <;> rfl) ?_
 refine aW [1,2,3,4,8,9,10,11,12] [] <| kG <| di 3 [1,2,3,4,8,9,10,11,12] [(12,aI (K6.wrap ((i : Int) + 1)))] <| cU [1,2,3,4,8,9,10,11,12] [(12,aI (K6.wrap ((i : Int) + 1)))] [(12,aI ((i : Int) + 1))] (by rw [show (K6.wrap ((i : Int) + 1)) = ((i : Int) + 1) from al (by omega) (by omega)]) (by kernel_rfl) ?_
 refine aW [1,2,3,4,8,9,10,11,12] [] ?_
 exact ⟨⟨(i + 1,(sl.set (d6 r seq i) (cz text i))),⟨hlti,(by rw [List.length_set]; exact hl),(by rw [gY,← HS,eE]; first | (rw [if_pos (by refine ⟨by omega,by omega,?_⟩; rw [hsx]; omega)]) | (rw [if_neg (by intro hh; have hh1 := hh.1; have hh2 := hh.2.1; have hh3 := hh.2.2; (try rw [hsx] at hh3); omega)]))⟩⟩,kF 3 0 [1,2,3,4,8,9,10,11,12],by show (fun (i : Nat) (sl : List Int) => text.size - i) (i + 1) (sl.set (d6 r seq i) (cz text i)) < text.size - i; (dsimp only; omega)⟩
 have h8p := of_decide_eq_false h8
 refine kK <| kG <| di 3 [1,2,3,4,8,9,10,11,12] [(12,aI (K6.wrap ((i : Int) + 1)))] <| cU [1,2,3,4,8,9,10,11,12] [(12,aI (K6.wrap ((i : Int) + 1)))] [(12,aI ((i : Int) + 1))] (by rw [show (K6.wrap ((i : Int) + 1)) = ((i : Int) + 1) from al (by omega) (by omega)]) (by kernel_rfl) ?_
 refine aW [1,2,3,4,8,9,10,11,12] [] ?_
 exact ⟨⟨(i + 1,sl),⟨hlti,hl,(by rw [gY,← HS,eE]; first | (rw [if_pos (by refine ⟨by omega,by omega,?_⟩; rw [hsx]; omega)]) | (rw [if_neg (by intro hh; have hh1 := hh.1; have hh2 := hh.2.1; have hh3 := hh.2.2; (try rw [hsx] at hh3); omega)]))⟩⟩,kF 3 0 [1,2,3,4,8,9,10,11,12],by show (fun (i : Nat) (sl : List Int) => text.size - i) (i + 1) sl < text.size - i; (dsimp only; omega)⟩
 have h7p := of_decide_eq_false h7
 refine di 7 [1,2,3,4,8,9,10,11,12,13,58] [(58,aB (decide (((d6 r seq i : Nat) : Int) < r.fin)))] <| kP 58 (decide (((d6 r seq i : Nat) : Int) < r.fin)) (fun h9 => ?_) (fun h9 => ?_)
 have h9p := of_decide_eq_true h9
 refine gc 2 [1,2,3,4,8,9,10,11,12,13,58,59,60] [(58,aB true),(59,.v (.slice v4a ((aY r).length) v4c)),(60,aI ((d6 r seq i : Nat) : Int))] (.pointer (some ⟨gg,(d6 r seq i) * 1,none⟩)) rfl (fun _ _ _ ww hr => ee (kd := .i64) (T := 76) (e := 3) (K := 1) (g := gg) (N := ((aY r).length)) (cap := v4c) (d6 r seq i) (hgg trivial) hr.1 rfl rfl (by kernel_rfl) (by kernel_rfl) (by kernel_rfl) (by omega) ww) ?_
 refine gc 0 [1,2,3,4,8,9,10,11,12,13,58,61] [] (iI x) rfl (fun _ _ _ ww hr => e6 (po := 0) (j := (d6 r seq i)) (row := [iI x]) (a9 w.heap.size 3 1 (.slice v4a ((aY r).length) v4c) (sl.map az)) hr rfl (by kernel_rfl) (by simp) (by simp only [List.getElem?_map,hx]; rfl) (by kernel_rfl) (hgg trivial) rfl rfl) ?_
 refine aW [1,2,3,4,8,9,10,11,12,13,64] [(64,aB (decide (x < 0)))] <| kC (decide (x < 0)) (fun h10 => ?_) (fun h10 => ?_)
 have h10p := of_decide_eq_true h10
 refine kG <| gc 4 [1,2,3,4,8,9,10,11,12,65,66,67,68] [(65,.v (.slice v4a ((aY r).length) v4c)),(66,aI ((d6 r seq i : Nat) : Int)),(67,.v (.string text)),(68,aI (i : Int))] (.int .u8 (cz text i)) rfl (fun _ _ _ ww hr => act_tix (kd := .i64) (t := text) i hr.1 rfl rfl (by kernel_rfl) (by kernel_rfl) hlti ww) ?_
 refine gc 1 [1,2,3,4,8,9,10,11,12,65,66,70] [(70,aI (K6.wrap (cz text i)))] (.pointer (some ⟨gg,(d6 r seq i) * 1,none⟩)) rfl (fun _ _ _ ww hr => ee (kd := .i64) (T := 76) (e := 3) (K := 1) (g := gg) (N := ((aY r).length)) (cap := v4c) (d6 r seq i) (hgg trivial) hr.1 rfl rfl (by kernel_rfl) (by kernel_rfl) (by kernel_rfl) (by omega) ww) ?_
 refine xl_hs 0 [1,2,3,4,8,9,10,11,12,70,71] ⟨[(1,aI seq),(2,.v (.string text)),(3,aB fin),(4,.p 0 0),(8,.p 1 0),(9,.p 2 0),(10,aI (wO r)),(11,.v (.slice v4a ((aY r).length) v4c)),(12,aI (i : Int)),(70,aI (K6.wrap (cz text i))),(71,.v (.pointer (some ⟨gg,(d6 r seq i) * 1,none⟩)))],[⟨37,ag r (.slice Arh r.held.length Crh)⟩,⟨37,eD⟩,⟨37,ag r (.slice v1a r.held.length v1c)⟩],[],[a9 w.heap.size 3 1 (.slice v4a ((aY r).length) v4c) (sl.map az),a9 w.heap.size 89 2 (.slice v1a r.held.length v1c) (r.held.map pC),aJ (.slice Arh r.held.length Crh) 2 (r.held.map pC)]⟩ (by kernel_rfl) rfl (by kernel_rfl) rfl (by kernel_rfl) (HSg.hs (hs_stR (g := gg) (B := w.heap.size) (e := 3) (K := 1) (N := ((aY r).length)) (cap := v4c) (rs := (sl.map az)) (rs' := (sl.set (d6 r seq i) (K6.wrap (cz text i))).map az) (v := (iI (K6.wrap (cz text i)))) (i := 0) (off := (d6 r seq i) * 1) (d6 r seq i) 0 [iI x] (row' := [iI (K6.wrap (cz text i))]) (hgg trivial) rfl (by kernel_rfl) rfl (by kernel_rfl) (by kernel_rfl) (by kernel_rfl) (by kernel_rfl) (Nat.le_refl _) (by simp only [List.getElem?_map,hx]; rfl) (by kernel_rfl) rfl (by rw [List.map_set]; rfl))) ?_
 refine dt 0 [1,2,3,4,8,9,10,11,12] [(1,aI seq),(2,.v (.string text)),(3,aB fin),(4,.p 0 0),(8,.p 1 0),(9,.p 2 0),(10,aI (wO r)),(11,.v (.slice v4a ((aY r).length) v4c)),(12,aI (i : Int))] <| xl_eq (st' := ⟨[(1,aI seq),(2,.v (.string text)),(3,aB fin),(4,.p 0 0),(8,.p 1 0),(9,.p 2 0),(10,aI (wO r)),(11,.v (.slice v4a ((aY r).length) v4c)),(12,aI (i : Int))],[⟨37,ag r (.slice Arh r.held.length Crh)⟩,⟨37,eD⟩,⟨37,ag r (.slice v1a r.held.length v1c)⟩],[],[a9 w.heap.size 3 1 (.slice v4a ((aY r).length) v4c) ((sl.set (d6 r seq i) (cz text i)).map az),a9 w.heap.size 89 2 (.slice v1a r.held.length v1c) (r.held.map pC),aJ (.slice Arh r.held.length Crh) 2 (r.held.map pC)]⟩) (by rw [show (K6.wrap (cz text i)) = (cz text i) from al (by omega) (by omega)] <;> rfl) ?_
 refine aW [1,2,3,4,8,9,10,11,12] [] <| kG <| di 3 [1,2,3,4,8,9,10,11,12] [(12,aI (K6.wrap ((i : Int) + 1)))] <| cU [1,2,3,4,8,9,10,11,12] [(12,aI (K6.wrap ((i : Int) + 1)))] [(12,aI ((i : Int) + 1))] (by rw [show (K6.wrap ((i : Int) + 1)) = ((i : Int) + 1) from al (by omega) (by omega)]) (by kernel_rfl) ?_
 refine aW [1,2,3,4,8,9,10,11,12] [] ?_
 exact ⟨⟨(i + 1,(sl.set (d6 r seq i) (cz text i))),⟨hlti,(by rw [List.length_set]; exact hl),(by rw [gY,← HS,eE]; first | (rw [if_pos (by refine ⟨by omega,by omega,?_⟩; rw [hsx]; omega)]) | (rw [if_neg (by intro hh; have hh1 := hh.1; have hh2 := hh.2.1; have hh3 := hh.2.2; (try rw [hsx] at hh3); omega)]))⟩⟩,kF 3 0 [1,2,3,4,8,9,10,11,12],by show (fun (i : Nat) (sl : List Int) => text.size - i) (i + 1) (sl.set (d6 r seq i) (cz text i)) < text.size - i; (dsimp only; omega)⟩
 have h10p := of_decide_eq_false h10
 refine kK <| kG <| di 3 [1,2,3,4,8,9,10,11,12] [(12,aI (K6.wrap ((i : Int) + 1)))] <| cU [1,2,3,4,8,9,10,11,12] [(12,aI (K6.wrap ((i : Int) + 1)))] [(12,aI ((i : Int) + 1))] (by rw [show (K6.wrap ((i : Int) + 1)) = ((i : Int) + 1) from al (by omega) (by omega)]) (by kernel_rfl) ?_
 refine aW [1,2,3,4,8,9,10,11,12] [] ?_
 exact ⟨⟨(i + 1,sl),⟨hlti,hl,(by rw [gY,← HS,eE]; first | (rw [if_pos (by refine ⟨by omega,by omega,?_⟩; rw [hsx]; omega)]) | (rw [if_neg (by intro hh; have hh1 := hh.1; have hh2 := hh.2.1; have hh3 := hh.2.2; (try rw [hsx] at hh3); omega)]))⟩⟩,kF 3 0 [1,2,3,4,8,9,10,11,12],by show (fun (i : Nat) (sl : List Int) => text.size - i) (i + 1) sl < text.size - i; (dsimp only; omega)⟩
 have h9p := of_decide_eq_false h9
 refine aW [1,2,3,4,8,9,10,11,12,13,64] [(64,aB false)] <| kN <| kK <| kG <| di 3 [1,2,3,4,8,9,10,11,12] [(12,aI (K6.wrap ((i : Int) + 1)))] ?_
 refine cU [1,2,3,4,8,9,10,11,12] [(12,aI (K6.wrap ((i : Int) + 1)))] [(12,aI ((i : Int) + 1))] (by rw [show (K6.wrap ((i : Int) + 1)) = ((i : Int) + 1) from al (by omega) (by omega)]) (by kernel_rfl) ?_
 refine aW [1,2,3,4,8,9,10,11,12] [] ?_
 exact ⟨⟨(i + 1,sl),⟨hlti,hl,(by rw [gY,← HS,eE]; first | (rw [if_pos (by refine ⟨by omega,by omega,?_⟩; rw [hsx]; omega)]) | (rw [if_neg (by intro hh; have hh1 := hh.1; have hh2 := hh.2.1; have hh3 := hh.2.2; (try rw [hsx] at hh3); omega)]))⟩⟩,kF 3 0 [1,2,3,4,8,9,10,11,12],by show (fun (i : Nat) (sl : List Int) => text.size - i) (i + 1) sl < text.size - i; (dsimp only; omega)⟩
 have h6p := of_decide_eq_false h6
 refine aW [1,2,3,4,8,9,10,11,12,13,64] [(64,aB false)] <| kN <| kK <| kG <| di 3 [1,2,3,4,8,9,10,11,12] [(12,aI (K6.wrap ((i : Int) + 1)))] ?_
 refine cU [1,2,3,4,8,9,10,11,12] [(12,aI (K6.wrap ((i : Int) + 1)))] [(12,aI ((i : Int) + 1))] (by rw [show (K6.wrap ((i : Int) + 1)) = ((i : Int) + 1) from al (by omega) (by omega)]) (by kernel_rfl) ?_
 refine aW [1,2,3,4,8,9,10,11,12] [] ?_
 exact ⟨⟨(i + 1,sl),⟨hlti,hl,(by rw [gY,← HS,eE]; first | (rw [if_pos (by refine ⟨by omega,by omega,?_⟩; rw [hsx]; omega)]) | (rw [if_neg (by intro hh; have hh1 := hh.1; have hh2 := hh.2.1; have hh3 := hh.2.2; (try rw [hsx] at hh3); omega)]))⟩⟩,kF 3 0 [1,2,3,4,8,9,10,11,12],by show (fun (i : Nat) (sl : List Int) => text.size - i) (i + 1) sl < text.size - i; (dsimp only; omega)⟩
 have h5p := of_decide_eq_false h5
 have hti : i = text.size := by simp at h5; omega
 subst hti
 have hall : sl = et r seq text := HS
 have hby : ∀ x ∈ sl,x ≤ 255 := by rw [hall]; exact allIn_le _ _ _
 refine bH <| kS <| bo [] (by kernel_rfl) (fun ρ σ => ?_)
 refine cJ [0,1,2,4,5] [77,74,72,3,4,8,9,10,11] 4 [(77,aI r.next),(74,aI (text.size : Int)),(72,aI seq),(3,aB fin),(4,.p 0 0),(8,.p 1 0),(9,.p 2 0),(10,aI (wO r)),(11,.v (.slice v4a ((aY r).length) v4c))] <| kA [3] <| du 3 96 [iI seq,iI (text.size : Int)] (some 75) rfl (c6 fun ww hf => bM seq (text.size : Int) ww ) ?_
 intro _
 refine cJ [6] [78,3,4,8,9,10,11] 2 [(78,aI (K6.wrap ((sA seq (text.size : Int)) - r.next))),(3,aB fin),(4,.p 0 0),(8,.p 1 0),(9,.p 2 0),(10,aI (wO r)),(11,.v (.slice v4a ((aY r).length) v4c))] <| xe_nv [78,3,4,8,9,10,11] [(78,aI (K6.wrap ((sA seq (text.size : Int)) - r.next)))] [(78,aI ((sA seq (text.size : Int)) - r.next))] (by rw [show (K6.wrap ((sA seq (text.size : Int)) - r.next)) = ((sA seq (text.size : Int)) - r.next) from al (by omega) (by omega)]) (by kernel_rfl) ?_
 refine kA [7] <| du 7 112 [iI ((sA seq (text.size : Int)) - r.next)] (some 79) rfl (c6 fun ww hf => fK ((sA seq (text.size : Int)) - r.next) ww ) ?_
 intro _
 refine xe_nv [79,78,3,4,8,9,10,11] [(79,aI (((sA seq (text.size : Int)) - r.next) % 4294967296))] [(79,aI ((d6 r seq text.size : Nat) : Int))] (by rw [show (((sA seq (text.size : Int)) - r.next) % 4294967296) = ((d6 r seq text.size : Nat) : Int) from offN_eq r seq text.size]) (by kernel_rfl) ?_
 refine cJ [8] [14,3,4,8,9,10,11] 0 [(14,aI ((d6 r seq text.size : Nat) : Int)),(3,aB fin),(4,.p 0 0),(8,.p 1 0),(9,.p 2 0),(10,aI (wO r)),(11,.v (.slice v4a ((aY r).length) v4c))] <| kZ <| kS <| dZ (α := {zz : Int // (fun (fo : Int) => fo = finIn r seq text fin ∧ (-1 ≤ fo ∧ fo ≤ 32)) zz}) (fun zz => (fun (fo : Int) => (⟨[(4,.p 0 0),(8,.p 1 0),(9,.p 2 0),(11,.v (.slice v4a ((aY r).length) v4c))],[⟨37,ag r (.slice Arh r.held.length Crh)⟩,⟨37,eD⟩,⟨37,ag { r with fin := fo } (.slice v1a r.held.length v1c)⟩],[],[a9 w.heap.size 3 1 (.slice v4a ((aY r).length) v4c) (sl.map az),a9 w.heap.size 89 2 (.slice v1a r.held.length v1c) (r.held.map pC),aJ (.slice Arh r.held.length Crh) 2 (r.held.map pC)]⟩ : St)) zz.1) ?_ ?_
 refine kQ <| di 2 [4,8,9,10,11,14,81] [(81,aB fin)] <| kP 81 (fin) (fun h11 => ?_) (fun h11 => ?_)
 refine di 5 [4,8,9,10,11,14,86] [(86,aB (decide (r.fin < 0)))] <| kP 86 (decide (r.fin < 0)) (fun h12 => ?_) (fun h12 => ?_)
 have h12p := of_decide_eq_true h12
 refine di 5 [4,8,9,11,14,91] [(91,aB (decide (((d6 r seq text.size : Nat) : Int) ≤ (wO r))))] <| kP 91 (decide (((d6 r seq text.size : Nat) : Int) ≤ (wO r))) (fun h13 => ?_) (fun h13 => ?_)
 have h13p := of_decide_eq_true h13
 refine dR 2 [4,8,9,11,14,91,92,93] [(91,aB true),(92,.v (.slice v4a ((aY r).length) v4c)),(93,aI ((d6 r seq text.size : Nat) : Int))] 130 [.slice v4a ((aY r).length) v4c,iI ((d6 r seq text.size : Nat) : Int)] (some 94) rfl (aA fun ww hf => yl18Free_c sl (.slice v4a ((aY r).length) v4c) (d6 r seq text.size : Nat) ww (ax (hf _ m0)) (by omega)) ?_
 intro _
 refine aW [4,8,9,11,14,95] [(95,aB (dD sl (d6 r seq text.size : Nat)))] <| kC ((dD sl (d6 r seq text.size : Nat))) (fun h14 => ?_) (fun h14 => ?_)
 refine kG <| bC [4,8,9,11] [] 2 ⟨37,ag { r with fin := ((d6 r seq text.size : Nat) : Int) } (.slice v1a r.held.length v1c)⟩ ?_
 exact ⟨⟨(((d6 r seq text.size : Nat) : Int)),⟨(by unfold finIn; rw [← hall]; first | (simp [*]; done) | grind),(by first | omega | (have := hf3; omega))⟩⟩,kF 3 0 [4,8,9,11]⟩
 refine kK ?_
 exact ⟨⟨(r.fin),⟨(by unfold finIn; rw [← hall]; first | (simp [*]; done) | grind),(by first | omega | (have := hf3; omega))⟩⟩,kF 3 0 [4,8,9,11]⟩
 have h13p := of_decide_eq_false h13
 refine aW [4,8,9,11,14,95] [(95,aB false)] <| kN <| kK ?_
 exact ⟨⟨(r.fin),⟨(by unfold finIn; rw [← hall]; first | (simp [*]; done) | grind),(by first | omega | (have := hf3; omega))⟩⟩,kF 3 0 [4,8,9,11]⟩
 have h12p := of_decide_eq_false h12
 refine aW [4,8,9,11,14,95] [(95,aB false)] <| kN <| kK ?_
 exact ⟨⟨(r.fin),⟨(by unfold finIn; rw [← hall]; first | (simp [*]; done) | grind),(by first | omega | (have := hf3; omega))⟩⟩,kF 3 0 [4,8,9,11]⟩
 refine aW [4,8,9,11,14,95] [(95,aB false)] <| kN <| kK ?_
 exact ⟨⟨(r.fin),⟨(by unfold finIn; rw [← hall]; first | (simp [*]; done) | grind),(by first | omega | (have := hf3; omega))⟩⟩,kF 3 0 [4,8,9,11]⟩
 rintro ⟨fo,hfo,hfb⟩
 try dsimp only
 try dsimp only at hfo hfb
 refine kQ <| aW [4,8,9,11,15] [(15,aI 0)] <| kQ <| kHD 0 [4,8,9,11,15] [] rfl (aH (e := 5) (K := 1) (bytes := 1) [] (rs := ([] : List Int).map bR) rfl rfl) ?_
 intro g15
 refine aW [4,8,9,11,15,16] [(16,.v (.slice (some ⟨g15,0,none⟩) 0 0))] <| kS <| dZ (α := {zz : Nat × List Int × Option Addr × Nat // (fun (n2 : Nat) (gt : List Int) (A2 : Option Addr) (c2 : Nat) => n2 = eA sl ∧ gt = sl.take n2 ∧ n2 ≤ 33) zz.1 zz.2.1 zz.2.2.1 zz.2.2.2}) (fun zz => (fun (n2 : Nat) (gt : List Int) (A2 : Option Addr) (c2 : Nat) => (⟨[(4,.p 0 0),(8,.p 1 0),(9,.p 2 0),(11,.v (.slice v4a ((aY r).length) v4c)),(15,aI (n2 : Int)),(16,.v (.slice A2 gt.length c2))],[⟨37,ag r (.slice Arh r.held.length Crh)⟩,⟨37,eD⟩,⟨37,ag { r with fin := fo } (.slice v1a r.held.length v1c)⟩],[],[a9 w.heap.size 5 1 (.slice A2 gt.length c2) (gt.map bR),a9 w.heap.size 3 1 (.slice v4a ((aY r).length) v4c) (sl.map az),a9 w.heap.size 89 2 (.slice v1a r.held.length v1c) (r.held.map pC),aJ (.slice Arh r.held.length Crh) 2 (r.held.map pC)]⟩ : St)) zz.1.1 zz.1.2.1 zz.1.2.2.1 zz.1.2.2.2) ?_ ?_
 refine ao <| bc (α := {x : Nat × List Int × Option Addr × Nat // (fun (n2 : Nat) (gt : List Int) (A2 : Option Addr) (c2 : Nat) => n2 ≤ 33 ∧ gt = sl.take n2 ∧ (∀ x ∈ sl.take n2,0 ≤ x)) x.1 x.2.1 x.2.2.1 x.2.2.2}) (fun x => (fun (n2 : Nat) (gt : List Int) (A2 : Option Addr) (c2 : Nat) => (⟨[(4,.p 0 0),(8,.p 1 0),(9,.p 2 0),(11,.v (.slice v4a ((aY r).length) v4c)),(15,aI (n2 : Int)),(16,.v (.slice A2 gt.length c2))],[⟨37,ag r (.slice Arh r.held.length Crh)⟩,⟨37,eD⟩,⟨37,ag { r with fin := fo } (.slice v1a r.held.length v1c)⟩],[],[a9 w.heap.size 5 1 (.slice A2 gt.length c2) (gt.map bR),a9 w.heap.size 3 1 (.slice v4a ((aY r).length) v4c) (sl.map az),a9 w.heap.size 89 2 (.slice v1a r.held.length v1c) (r.held.map pC),aJ (.slice Arh r.held.length Crh) 2 (r.held.map pC)]⟩ : St)) x.1.1 x.1.2.1 x.1.2.2.1 x.1.2.2.2) (fun x => (fun (n2 : Nat) (gt : List Int) (A2 : Option Addr) (c2 : Nat) => 33 - n2) x.1.1 x.1.2.1 x.1.2.2.1 x.1.2.2.2) ⟨(0,([] : List Int),(some ⟨g15,0,none⟩),0),⟨Nat.zero_le _,rfl,(by simp)⟩⟩ (eW [0,1,2,3] <| kF 3 0 [4,8,9,11,15,16]) ?_
 rintro ⟨⟨n2,gt,A2,c2⟩,hn2,hg2,hps⟩
 try dsimp only
 try dsimp only at hn2 hg2 hps
 refine kS <| kQ <| di 5 [4,8,9,11,15,16,103] [(103,aB (decide ((n2 : Int) < (((aY r).length : Nat) : Int))))] <| kP 103 (decide ((n2 : Int) < (((aY r).length : Nat) : Int))) (fun h16 => ?_) (fun h16 => ?_)
 have h16p := of_decide_eq_true h16
 have hlt2 : n2 < 33 := by simp at h16; omega
 obtain ⟨y,hy⟩ : ∃ y,sl[n2]? = some y := ⟨_,List.getElem?_eq_getElem (by omega)⟩
 have hy255 := hby y (List.mem_of_getElem? hy)
 have hgl : gt.length ≤ 33 := by rw [hg2,List.length_take]; omega
 refine gc 2 [4,8,9,11,15,16,103,104,105] [(103,aB true),(104,.v (.slice v4a ((aY r).length) v4c)),(105,aI (n2 : Int))] (.pointer (some ⟨gg,n2 * 1,none⟩)) rfl (fun _ _ _ ww hr => ee (kd := .i64) (T := 76) (e := 3) (K := 1) (g := gg) (N := ((aY r).length)) (cap := v4c) n2 (hgg trivial) hr.1 rfl rfl (by kernel_rfl) (by kernel_rfl) (by kernel_rfl) (by omega) ww) ?_
 refine gc 0 [4,8,9,11,15,16,103,106] [] (iI y) rfl (fun _ _ _ ww hr => e6 (po := 0) (j := n2) (row := [iI y]) (a9 w.heap.size 3 1 (.slice v4a ((aY r).length) v4c) (sl.map az)) hr rfl (by kernel_rfl) (by simp) (by simp only [List.getElem?_map,hy]; rfl) (by kernel_rfl) (hgg trivial) rfl rfl) ?_
 refine aW [4,8,9,11,15,16,109] [(109,aB (decide (y ≥ 0)))] <| kC (decide (y ≥ 0)) (fun h17 => ?_) (fun h17 => ?_)
 have h17p := of_decide_eq_true h17
 refine kK <| ao <| kQ <| gc 3 [4,8,9,11,15,16,110,111,112] [(110,.v (.slice A2 gt.length c2)),(111,.v (.slice v4a ((aY r).length) v4c)),(112,aI (n2 : Int))] (.pointer (some ⟨gg,n2 * 1,none⟩)) rfl (fun _ _ _ ww hr => ee (kd := .i64) (T := 76) (e := 3) (K := 1) (g := gg) (N := ((aY r).length)) (cap := v4c) n2 (hgg trivial) hr.1 rfl rfl (by kernel_rfl) (by kernel_rfl) (by kernel_rfl) (by omega) ww) ?_
 refine gc 0 [4,8,9,11,15,16,110,113] [] (iI y) rfl (fun _ _ _ ww hr => e6 (po := 0) (j := n2) (row := [iI y]) (a9 w.heap.size 3 1 (.slice v4a ((aY r).length) v4c) (sl.map az)) hr rfl (by kernel_rfl) (by simp) (by simp only [List.getElem?_map,hy]; rfl) (by kernel_rfl) (hgg trivial) rfl rfl) ?_
 refine kHD 1 [4,8,9,11,15,16,110,115] [(115,.v (.int .u8 (IntKind.u8.wrap y)))] rfl (aH (e := 5) (K := 1) (bytes := 1) [.int .u8 (IntKind.u8.wrap y)] (rs := ([IntKind.u8.wrap y] : List Int).map bR) rfl rfl) ?_
 intro g18
 refine kHS 0 [4,8,9,11,15,16,110,116] [(4,.p 0 0),(8,.p 1 0),(9,.p 2 0),(11,.v (.slice v4a ((aY r).length) v4c)),(15,aI (n2 : Int)),(16,.v (.slice A2 gt.length c2)),(110,.v (.slice A2 gt.length c2)),(116,.v (.slice (some ⟨g18,0,none⟩) 1 1))] rfl (aE (e := 5) (K := 1) (bytes := 1) (i := 1) (q := (gt ++ ([IntKind.u8.wrap y] : List Int)).length) (new := ([IntKind.u8.wrap y] : List Int).map bR) (rs' := (gt ++ ([IntKind.u8.wrap y] : List Int)).map bR) rfl rfl rfl rfl (by kernel_rfl) (by kernel_rfl) (by kernel_rfl) rfl (by simp) (by rw [List.map_append]) (by simp) (fun ww hf => (ax (hf (a9 w.heap.size 5 1 (.slice (some ⟨g18,0,none⟩) 1 1) (([IntKind.u8.wrap y] : List Int).map bR)) (by simp)))) (by intro r hr; obtain ⟨x,hx,rfl⟩ := List.mem_map.1 hr; exact ⟨rfl,by simp [bR,Value.oneCell']⟩) (by (try simp only [List.length_map,List.length_append,List.length_cons,List.length_nil,List.length_take,List.length_drop,maxLen]); omega) (by (try simp only [List.length_map,List.length_append,List.length_cons,List.length_nil,List.length_take,List.length_drop,maxLen]); omega)) ?_
 rintro ⟨v19a,v19c⟩
 refine dt 1 [4,8,9,11,15,16] [(4,.p 0 0),(8,.p 1 0),(9,.p 2 0),(11,.v (.slice v4a ((aY r).length) v4c)),(15,aI (n2 : Int)),(16,.v (.slice v19a ((gt ++ ([IntKind.u8.wrap y] : List Int)).length) v19c))] <| xl_eq (st' := ⟨[(4,.p 0 0),(8,.p 1 0),(9,.p 2 0),(11,.v (.slice v4a ((aY r).length) v4c)),(15,aI (n2 : Int)),(16,.v (.slice v19a ((gt ++ ([y] : List Int)).length) v19c))],[⟨37,ag r (.slice Arh r.held.length Crh)⟩,⟨37,eD⟩,⟨37,ag { r with fin := fo } (.slice v1a r.held.length v1c)⟩],[],[a9 w.heap.size 5 1 (.slice v19a ((gt ++ ([y] : List Int)).length) v19c) ((gt ++ ([y] : List Int)).map bR),a9 w.heap.size 5 1 (.slice (some ⟨g18,0,none⟩) 1 1) (([y] : List Int).map bR),a9 w.heap.size 3 1 (.slice v4a ((aY r).length) v4c) (sl.map az),a9 w.heap.size 89 2 (.slice v1a r.held.length v1c) (r.held.map pC),aJ (.slice Arh r.held.length Crh) 2 (r.held.map pC)]⟩) (by rw [show (IntKind.u8.wrap y) = y from u8_id (by omega) (by omega)] <;> rfl) ?_
 refine aW [4,8,9,11,15,16] [] <| kG <| di 3 [4,8,9,11,15,16] [(15,aI (K6.wrap ((n2 : Int) + 1)))] <| cU [4,8,9,11,15,16] [(15,aI (K6.wrap ((n2 : Int) + 1)))] [(15,aI ((n2 : Int) + 1))] (by rw [show (K6.wrap ((n2 : Int) + 1)) = ((n2 : Int) + 1) from al (by omega) (by omega)]) (by kernel_rfl) ?_
 refine aW [4,8,9,11,15,16] [] ?_
 exact ⟨⟨(n2 + 1,(gt ++ ([y] : List Int)),v19a,v19c),⟨(by omega),(by rw [hg2,take_more hy]),(take_pos hps hy (by omega))⟩⟩,eW [0,2,3,4] <| kF 3 0 [4,8,9,11,15,16],by show (fun (n2 : Nat) (gt : List Int) (A2 : Option Addr) (c2 : Nat) => 33 - n2) (n2 + 1) (gt ++ ([y] : List Int)) v19a v19c < 33 - n2; (dsimp only; omega)⟩
 have h17p := of_decide_eq_false h17
 refine bH ?_
 exact ⟨⟨(n2,gt,A2,c2),⟨(by first | exact (gh (k := n2) (by omega) hps (fun z hz => by rw [hy] at hz; simp only [Option.some.injEq] at hz; omega)).symm | exact (gh (k := n2) (by omega) hps (fun z hz => by rw [List.getElem?_eq_none (by omega)] at hz; simp at hz)).symm),hg2,hn2⟩⟩,kF 3 0 [4,8,9,11,15,16]⟩
 have h16p := of_decide_eq_false h16
 have hge2 : 33 ≤ n2 := by simp at h16; omega
 refine aW [4,8,9,11,15,16,109] [(109,aB false)] <| kN <| bH ?_
 exact ⟨⟨(n2,gt,A2,c2),⟨(by first | exact (gh (k := n2) (by omega) hps (fun z hz => by rw [hy] at hz; simp only [Option.some.injEq] at hz; omega)).symm | exact (gh (k := n2) (by omega) hps (fun z hz => by rw [List.getElem?_eq_none (by omega)] at hz; simp at hz)).symm),hg2,hn2⟩⟩,kF 3 0 [4,8,9,11,15,16]⟩
 rintro ⟨⟨n2,gt,A2,c2⟩,hnf,hg2,hn2⟩
 try dsimp only
 try dsimp only at hnf hg2 hn2
 have hbl := bstr_len gt
 have hgl : gt.length ≤ 33 := by rw [hg2,List.length_take]; omega
 refine kQ <| gc 3 [4,8,9,11,15,121,122] [(121,.v (.string r.data)),(122,.v (.slice A2 gt.length c2))] (.string (af gt)) rfl (fun _ _ _ ww hr => dv (e := 5) gt hr.1 rfl (by kernel_rfl) (by kernel_rfl) (by kernel_rfl) rfl (ax (hr.2.fact (a9 w.heap.size 5 1 (.slice A2 gt.length c2) (gt.map bR)) (by simp)).1)) ?_
 refine gc 0 [4,8,9,11,15,121,123] [] (.string (r.data ++ (af gt))) rfl (fun _ _ _ ww hr => co hr.1 rfl (by kernel_rfl) (by kernel_rfl) (str_add (by first | omega | (simp only [ByteArray.size_extract]; omega)) ww)) ?_
 refine bC [4,8,9,11,15] [] 2 ⟨37,ag { r with data := r.data ++ (af gt),fin := fo } (.slice v1a r.held.length v1c)⟩ <| kQ <| dR 3 [4,8,9,11,15,127,128] [(127,aI r.next),(128,aI (n2 : Int))] 96 [iI r.next,iI (n2 : Int)] (some 129) rfl (c6 fun ww hf => bM r.next (n2 : Int) ww ) ?_
 intro _
 refine bC [4,8,9,11,15] [] 2 ⟨37,[iI (sA r.next (n2 : Int)),.string (r.data ++ (af gt)),.slice v1a r.held.length v1c,iI fo,.bool r.done]⟩ <| kQ <| dR 2 [4,8,9,15,131,132] [(131,.v (.slice v4a ((aY r).length) v4c)),(132,aI (n2 : Int))] 131 [.slice v4a ((aY r).length) v4c,iI (n2 : Int)] (some 133) rfl (cb fun ww hw hf => yl18Pieces_c sl (.slice v4a ((aY r).length) v4c) n2 ww (ax (hf _ m1)) (by omega) (by omega) (by assumption) w.heap.size hw) ?_
 rintro ⟨v20a,v20c⟩
 refine bC [4,8,9,15] [] 2 ⟨37,[iI (sA r.next (n2 : Int)),.string (r.data ++ (af gt)),.slice v20a ((gL [] 0 (sl.drop n2)).length) v20c,iI fo,.bool r.done]⟩ <| kS <| dZ (α := {zz : Int // (fun (fp : Int) => fp = finOut r seq text fin) zz}) (fun zz => (fun (fp : Int) => (⟨[(4,.p 0 0),(8,.p 1 0),(9,.p 2 0)],[⟨37,ag r (.slice Arh r.held.length Crh)⟩,⟨37,eD⟩,⟨37,[iI (sA r.next (n2 : Int)),.string (r.data ++ (af gt)),.slice v20a ((gL [] 0 (sl.drop n2)).length) v20c,iI fp,.bool r.done]⟩],[],[a9 w.heap.size 89 2 (.slice v20a ((gL [] 0 (sl.drop n2)).length) v20c) ((gL [] 0 (sl.drop n2)).map pC),a9 w.heap.size 5 1 (.slice A2 gt.length c2) (gt.map bR),a9 w.heap.size 3 1 (.slice v4a ((aY r).length) v4c) (sl.map az),a9 w.heap.size 89 2 (.slice v1a r.held.length v1c) (r.held.map pC),aJ (.slice Arh r.held.length Crh) 2 (r.held.map pC)]⟩ : St)) zz.1) ?_ ?_
 refine kQ <| aT [4,8,9,15,137] [(4,.p 0 0),(8,.p 1 0),(9,.p 2 0),(15,aI (n2 : Int)),(137,aB (decide (fo ≥ 0)))] <| kC (decide (fo ≥ 0)) (fun h21 => ?_) (fun h21 => ?_)
 have h21p := of_decide_eq_true h21
 refine kG <| kRB 6 [4,8,9] [(4,.p 0 0),(8,.p 1 0),(9,.p 2 0)] [⟨37,ag r (.slice Arh r.held.length Crh)⟩,⟨37,eD⟩,⟨37,[iI (sA r.next (n2 : Int)),.string (r.data ++ (af gt)),.slice v20a ((gL [] 0 (sl.drop n2)).length) v20c,iI (K6.wrap (fo - (n2 : Int))),.bool r.done]⟩] <| xl_eq (st' := ⟨[(4,.p 0 0),(8,.p 1 0),(9,.p 2 0)],[⟨37,ag r (.slice Arh r.held.length Crh)⟩,⟨37,eD⟩,⟨37,[iI (sA r.next (n2 : Int)),.string (r.data ++ (af gt)),.slice v20a ((gL [] 0 (sl.drop n2)).length) v20c,iI (fo - (n2 : Int)),.bool r.done]⟩],[],[a9 w.heap.size 89 2 (.slice v20a ((gL [] 0 (sl.drop n2)).length) v20c) ((gL [] 0 (sl.drop n2)).map pC),a9 w.heap.size 5 1 (.slice A2 gt.length c2) (gt.map bR),a9 w.heap.size 3 1 (.slice v4a ((aY r).length) v4c) (sl.map az),a9 w.heap.size 89 2 (.slice v1a r.held.length v1c) (r.held.map pC),aJ (.slice Arh r.held.length Crh) 2 (r.held.map pC)]⟩) (by rw [show (K6.wrap (fo - (n2 : Int))) = (fo - (n2 : Int)) from al (by omega) (by omega)] <;> rfl) ?_
 refine aW [4,8,9] [] ?_
 exact ⟨⟨(fo - (n2 : Int)),(by unfold finOut; rw [← hall,← hnf,← hfo]; first | rw [if_pos (by omega)] | rw [if_neg (by omega)])⟩,kF 3 0 [4,8,9]⟩
 have h21p := of_decide_eq_false h21
 refine kK ?_
 exact ⟨⟨(fo),(by unfold finOut; rw [← hall,← hnf,← hfo]; first | rw [if_pos (by omega)] | rw [if_neg (by omega)])⟩,kF 3 0 [4,8,9]⟩
 rintro ⟨fp,hfp⟩
 try dsimp only
 try dsimp only at hfp
 refine kS <| kQ <| aT [4,8,9,145] [(4,.p 0 0),(8,.p 1 0),(9,.p 2 0),(145,aB (fp == 0))] <| kC (fp == 0) (fun h22 => ?_) (fun h22 => ?_)
 have h22p := cI h22
 refine kQ <| bC [4,8,9] [] 2 ⟨37,[iI (sA r.next (n2 : Int)),.string (r.data ++ (af gt)),.slice v20a ((gL [] 0 (sl.drop n2)).length) v20c,iI (-1),.bool r.done]⟩ <| kQ <| bC [4,8,9] [] 2 ⟨37,[iI (sA r.next (n2 : Int)),.string (r.data ++ (af gt)),.slice v20a ((gL [] 0 (sl.drop n2)).length) v20c,iI (-1),.bool true]⟩ ?_
 refine kG <| dR 2 [4,8,9,149] [(149,aI (sA r.next (n2 : Int)))] 96 [iI (sA r.next (n2 : Int)),iI 1] (some 150) rfl (c6 fun ww hf => bM (sA r.next (n2 : Int)) 1 ww ) ?_
 intro _
 refine bC [4,8,9] [] 2 ⟨37,[iI (sA (sA r.next (n2 : Int)) 1),.string (r.data ++ (af gt)),.slice v20a ((gL [] 0 (sl.drop n2)).length) v20c,iI (-1),.bool true]⟩ <| kS <| kQ <| aW [4,8,9,155] [(155,aB (decide ((((gL [] 0 (sl.drop n2)).length : Nat) : Int) > 3)))] ?_
 refine kC (decide ((((gL [] 0 (sl.drop n2)).length : Nat) : Int) > 3)) (fun h23 => ?_) (fun h23 => ?_)
 have h23p := of_decide_eq_true h23
 refine kQ <| dR 1 [8,156] [(156,.v (.agg (ag r (.slice Arh r.held.length Crh)).toArray))] 51 [.agg (ag r (.slice Arh r.held.length Crh)).toArray] (some 157) rfl (cb fun ww hw hf => gw r (.slice Arh r.held.length Crh) ww (hf _ m4) (by assumption) w.heap.size hw) ?_
 rintro ⟨v24a,v24c⟩
 refine bC [8] [(8,.p 1 0)] 1 ⟨37,ag r (.slice v24a r.held.length v24c)⟩ <| kR ?_
 have hmod : ae r seq text fin = r := by first | exact eS hrk (by assumption) (by rw [← hall,← hnf]; omega) | (unfold ae; rw [if_neg (by grind)]; done) | (unfold ae; rw [if_pos (by grind),← hall,← hnf,← hg2,← hfp]; first | (rw [if_pos (by omega)]; done) | (rw [if_neg (by omega),if_pos (by first | omega | simp_all)]; done) | (rw [if_neg (by omega),if_neg (by first | omega | simp_all)]; done))
 exact ⟨[.agg (ag r (.slice v24a r.held.length v24c)).toArray],by kernel_rfl,fun w' hb hf ha => by rw [hmod]; exact xo1 ((v24a,v24c)) rfl rfl (pW (hf _ m0) hB) hb⟩
 have h23p := of_decide_eq_false h23
 refine kK <| kQ <| bC [8] [(8,.p 1 0)] 1 ⟨37,[iI (sA (sA r.next (n2 : Int)) 1),.string (r.data ++ (af gt)),.slice v20a ((gL [] 0 (sl.drop n2)).length) v20c,iI (-1),.bool true]⟩ <| kR ?_
 have hmod : ae r seq text fin = (⟨sA (sA r.next (n2 : Int)) 1,r.data ++ (af gt),(gL [] 0 (sl.drop n2)),(-1),true⟩) := by first | exact eS hrk (by assumption) (by rw [← hall,← hnf]; omega) | (unfold ae; rw [if_neg (by grind)]; done) | (unfold ae; rw [if_pos (by grind),← hall,← hnf,← hg2,← hfp]; first | (rw [if_pos (by omega)]; done) | (rw [if_neg (by omega),if_pos (by first | omega | simp_all)]; done) | (rw [if_neg (by omega),if_neg (by first | omega | simp_all)]; done))
 exact ⟨[.agg #[iI (sA (sA r.next (n2 : Int)) 1),.string (r.data ++ (af gt)),.slice v20a ((gL [] 0 (sl.drop n2)).length) v20c,iI (-1),.bool true]],by kernel_rfl,fun w' hb hf ha => by rw [hmod]; exact xo1 ((v20a,v20c)) rfl rfl (pW (hf _ m0) hB) hb⟩
 have h22p := cB h22
 refine kK <| kS <| kQ <| aW [4,8,9,155] [(155,aB (decide ((((gL [] 0 (sl.drop n2)).length : Nat) : Int) > 3)))] ?_
 refine kC (decide ((((gL [] 0 (sl.drop n2)).length : Nat) : Int) > 3)) (fun h25 => ?_) (fun h25 => ?_)
 have h25p := of_decide_eq_true h25
 refine kQ <| dR 1 [8,156] [(156,.v (.agg (ag r (.slice Arh r.held.length Crh)).toArray))] 51 [.agg (ag r (.slice Arh r.held.length Crh)).toArray] (some 157) rfl (cb fun ww hw hf => gw r (.slice Arh r.held.length Crh) ww (hf _ m4) (by assumption) w.heap.size hw) ?_
 rintro ⟨v26a,v26c⟩
 refine bC [8] [(8,.p 1 0)] 1 ⟨37,ag r (.slice v26a r.held.length v26c)⟩ <| kR ?_
 have hmod : ae r seq text fin = r := by first | exact eS hrk (by assumption) (by rw [← hall,← hnf]; omega) | (unfold ae; rw [if_neg (by grind)]; done) | (unfold ae; rw [if_pos (by grind),← hall,← hnf,← hg2,← hfp]; first | (rw [if_pos (by omega)]; done) | (rw [if_neg (by omega),if_pos (by first | omega | simp_all)]; done) | (rw [if_neg (by omega),if_neg (by first | omega | simp_all)]; done))
 exact ⟨[.agg (ag r (.slice v26a r.held.length v26c)).toArray],by kernel_rfl,fun w' hb hf ha => by rw [hmod]; exact xo1 ((v26a,v26c)) rfl rfl (pW (hf _ m0) hB) hb⟩
 have h25p := of_decide_eq_false h25
 refine kK <| kQ <| bC [8] [(8,.p 1 0)] 1 ⟨37,[iI (sA r.next (n2 : Int)),.string (r.data ++ (af gt)),.slice v20a ((gL [] 0 (sl.drop n2)).length) v20c,iI fp,.bool r.done]⟩ <| kR ?_
 have hmod : ae r seq text fin = (⟨sA r.next (n2 : Int),r.data ++ (af gt),(gL [] 0 (sl.drop n2)),fp,r.done⟩) := by first | exact eS hrk (by assumption) (by rw [← hall,← hnf]; omega) | (unfold ae; rw [if_neg (by grind)]; done) | (unfold ae; rw [if_pos (by grind),← hall,← hnf,← hg2,← hfp]; first | (rw [if_pos (by omega)]; done) | (rw [if_neg (by omega),if_pos (by first | omega | simp_all)]; done) | (rw [if_neg (by omega),if_neg (by first | omega | simp_all)]; done))
 exact ⟨[.agg #[iI (sA r.next (n2 : Int)),.string (r.data ++ (af gt)),.slice v20a ((gL [] 0 (sl.drop n2)).length) v20c,iI fp,.bool r.done]],by kernel_rfl,fun w' hb hf ha => by rw [hmod]; exact xo1 ((v20a,v20c)) rfl rfl (pW (hf _ m0) hB) hb⟩
theorem ysAcked_c (s : Snd) (ack : Int) (w : World)  : Calls Tryz.prog 115 #[.agg (ai s).toArray, iI ack] w fun e w' => e = .returned (.tuple #[.agg (ai (bu s ack).1).toArray, .bool ((bu s ack).2)]) ∧ Below w.heap.size w w' := by
 refine bZ (args := [.agg (ai s).toArray,iI ack]) (fn := Tryz.f115) [] Tryz.func115 rfl Tryz.ntmps115 rfl (by simp) ?_
 refine kQ <| cm [1,2,4] ⟨[(1,aI ack),(2,.p 0 0),(4,.p 1 0)],[⟨34,ai s⟩,⟨34,sndZ⟩],[],[]⟩ <| kQ <| dR 3 [2,4,8,10] [(8,aI ack),(10,aI s.una)] 128 [iI ack,iI s.una] (some 11) rfl (c6 fun ww hf => sSeqDiff_c ack s.una ww ) ?_
 intro _
 refine aW [2,4,6] [(6,aI (aR ack s.una))] <| kS <| kQ <| dR 1 [2,4,6,12] [(12,.v (.agg (ai s).toArray))] 65 [.agg (ai s).toArray] (some 13) rfl (aA fun ww hf => ea s.una s.data s.sent s.fin s.finSent s.done ww ) ?_
 intro _
 refine di 2 [2,4,6,15] [(15,aB (!(aO s)))] <| kP 15 (!(aO s)) (fun h1 => ?_) (fun h1 => ?_)
 have h1n := bS h1
 refine aW [2,4,6,21] [(21,aB true)] <| kT <| kQ <| bC [4,5] [(5,aB false)] 1 ⟨34,ai s⟩ ?_
 refine kR ?_
 have hmod : bu s ack = (s,false) := by first | rfl | (simp [bu, *]; done) | (cases hfs : s.finSent <;> grind [bu])
 exact ⟨[.agg (ai s).toArray,.bool false],by kernel_rfl,fun w' hb hf => by rw [hmod]; exact ⟨rfl,hb⟩⟩
 have h1n := aF h1
 have h1nb := cE (s := s) (by simpa using h1n)
 obtain ⟨h1nb0,h1nb1,h1nb2,h1nb3,h1nb4,h1nb5,h1nb6,h1nb7,h1nb8,h1nb9,h1nb10⟩ := h1nb
 refine dR 2 [2,4,6,15,16,17] [(15,aB false),(16,aI (aR ack s.una)),(17,.v (.agg (ai s).toArray))] 109 [.agg (ai s).toArray] (some 18) rfl (aA fun ww hf => dE s.una s.data s.sent s.fin s.finSent s.done ww ) ?_
 intro _
 refine dR 0 [2,4,6,15,16,18] [] 63 [iI (aR ack s.una),iI 0,iI (ab s)] (some 19) rfl (c6 fun ww hf => e9 (aR ack s.una) 0 (ab s) ww ) ?_
 intro _
 refine aW [2,4,6,21] [(21,aB (!(bA (aR ack s.una) 0 (ab s))))] <| kC (!(bA (aR ack s.una) 0 (ab s))) (fun h2 => ?_) (fun h2 => ?_)
 have h2n := bS h2
 have h2ni := inB_ff.1 (show bA (aR ack s.una) 0 (ab s) = false from by simpa using h2n)
 refine kQ <| bC [4,5] [(5,aB false)] 1 ⟨34,ai s⟩ <| kR ?_
 have hmod : bu s ack = (s,false) := by first | rfl | (simp [bu, *]; done) | (cases hfs : s.finSent <;> grind [bu])
 exact ⟨[.agg (ai s).toArray,.bool false],by kernel_rfl,fun w' hb hf => by rw [hmod]; exact ⟨rfl,hb⟩⟩
 have h2n := aF h2
 have h2ni := inB_tt.1 (show bA (aR ack s.una) 0 (ab s) = true from by simpa using h2n)
 refine kK <| kQ <| gk [2,4,6,7] [(7,.p 2 0)] [⟨34,ai s⟩] <| kQ <| dR 3 [2,4,6,7,25,26] [(25,aI s.una),(26,aI (aR ack s.una))] 96 [iI s.una,iI (aR ack s.una)] (some 27) rfl (c6 fun ww hf => bM s.una (aR ack s.una) ww ) ?_
 intro _
 refine bC [2,4,6,7] [] 2 ⟨34,ai { s with una := sA s.una (aR ack s.una) }⟩ <| kS <| kQ <| aT [2,4,6,7,32] [(2,.p 0 0),(4,.p 1 0),(6,aI (aR ack s.una)),(7,.p 2 0),(32,aB (decide ((aR ack s.una) > s.sent)))] ?_
 refine kC (decide ((aR ack s.una) > s.sent)) (fun h3 => ?_) (fun h3 => ?_)
 have h3p := of_decide_eq_true h3
 refine kQ <| bC [2,4,7] [] 2 ⟨34,ai { s with una := sA s.una (aR ack s.una),finSent := false }⟩ <| kQ <| bC [2,4,7] [] 2 ⟨34,ai { s with una := sA s.una (aR ack s.una),finSent := false,done := true }⟩ ?_
 refine kG <| aW [2,4,6,7] [(6,aI s.sent)] <| kQ <| gc 3 [2,4,6,7,38,39] [(38,.v (.string s.data)),(39,aI s.sent)] (.string (s.data.extract (s.sent).toNat s.data.size)) rfl (fun _ _ _ ww hr => act_slSe (s.sent) hr.1 rfl (by kernel_rfl) rfl rfl (by omega) (by omega) ww) ?_
 refine bC [2,4,6,7] [] 2 ⟨34,[iI (sA s.una (aR ack s.una)),.string (s.data.extract (s.sent).toNat s.data.size),iI s.sent,.bool s.fin,.bool false,.bool true]⟩ <| kQ <| kRF 6 [4,7] ⟨[(4,.p 1 0),(7,.p 2 0)],[⟨34,ai s⟩,⟨34,sndZ⟩,⟨34,[iI (sA s.una (aR ack s.una)),.string (s.data.extract (s.sent).toNat s.data.size),iI (K6.wrap (s.sent - s.sent)),.bool s.fin,.bool false,.bool true]⟩],[],[]⟩ <| xl_eq (st' := ⟨[(4,.p 1 0),(7,.p 2 0)],[⟨34,ai s⟩,⟨34,sndZ⟩,⟨34,[iI (sA s.una (aR ack s.una)),.string (s.data.extract (s.sent).toNat s.data.size),iI (s.sent - s.sent),.bool s.fin,.bool false,.bool true]⟩],[],[]⟩) (by rw [show (K6.wrap (s.sent - s.sent)) = (s.sent - s.sent) from al (by omega) (by omega)] <;> rfl) ?_
 refine aW [4,7] [] <| kQ <| bC [4,5] [(5,aB true)] 1 ⟨34,[iI (sA s.una (aR ack s.una)),.string (s.data.extract (s.sent).toNat s.data.size),iI (s.sent - s.sent),.bool s.fin,.bool false,.bool true]⟩ <| kR ?_
 have hmod : bu s ack = ((⟨sA s.una (aR ack s.una),s.data.extract (s.sent).toNat s.data.size,s.sent - s.sent,s.fin,false,true⟩),true) := by first | rfl | (simp [bu, *]; done) | (cases hfs : s.finSent <;> grind [bu])
 exact ⟨[.agg #[iI (sA s.una (aR ack s.una)),.string (s.data.extract (s.sent).toNat s.data.size),iI (s.sent - s.sent),.bool s.fin,.bool false,.bool true],.bool true],by kernel_rfl,fun w' hb hf => by rw [hmod]; exact ⟨rfl,hb⟩⟩
 have h3p := of_decide_eq_false h3
 refine kK <| kQ <| gc 3 [2,4,6,7,38,39] [(38,.v (.string s.data)),(39,aI (aR ack s.una))] (.string (s.data.extract (aR ack s.una).toNat s.data.size)) rfl (fun _ _ _ ww hr => act_slSe (aR ack s.una) hr.1 rfl (by kernel_rfl) rfl rfl (by omega) (by omega) ww) ?_
 refine bC [2,4,6,7] [] 2 ⟨34,ai { s with una := sA s.una (aR ack s.una),data := s.data.extract (aR ack s.una).toNat s.data.size }⟩ <| kQ <| kRF 6 [4,7] ⟨[(4,.p 1 0),(7,.p 2 0)],[⟨34,ai s⟩,⟨34,sndZ⟩,⟨34,ai { s with una := sA s.una (aR ack s.una),data := s.data.extract (aR ack s.una).toNat s.data.size,sent := K6.wrap (s.sent - (aR ack s.una)) }⟩],[],[]⟩ <| xl_eq (st' := ⟨[(4,.p 1 0),(7,.p 2 0)],[⟨34,ai s⟩,⟨34,sndZ⟩,⟨34,ai { s with una := sA s.una (aR ack s.una),data := s.data.extract (aR ack s.una).toNat s.data.size,sent := s.sent - (aR ack s.una) }⟩],[],[]⟩) (by rw [show (K6.wrap (s.sent - (aR ack s.una))) = (s.sent - (aR ack s.una)) from al (by omega) (by omega)] <;> rfl) ?_
 refine aW [4,7] [] <| kQ <| bC [4,5] [(5,aB true)] 1 ⟨34,ai { s with una := sA s.una (aR ack s.una),data := s.data.extract (aR ack s.una).toNat s.data.size,sent := s.sent - (aR ack s.una) }⟩ <| kR ?_
 have hmod : bu s ack = (({ s with una := sA s.una (aR ack s.una),data := s.data.extract (aR ack s.una).toNat s.data.size,sent := s.sent - (aR ack s.una) }),true) := by first | rfl | (simp [bu, *]; done) | (cases hfs : s.finSent <;> grind [bu])
 exact ⟨[.agg (ai { s with una := sA s.una (aR ack s.una),data := s.data.extract (aR ack s.una).toNat s.data.size,sent := s.sent - (aR ack s.una) }).toArray,.bool true],by kernel_rfl,fun w' hb hf => by rw [hmod]; exact ⟨rfl,hb⟩⟩
theorem ysTakenIn_c (r : Rcv) (r_heldV : Value) (n : Int) (w : World) (hl_r_heldV : Sl w r_heldV 2 (r.held.map pC)) (hkn : r.held.length ≤ 1048576) (hm : ∀ p ∈ r.held, p.text.size ≤ 1048576) (hsz : r.data.size ≤ 4611686018427387904) (B : Nat) (hB : B ≤ w.heap.size) : Calls Tryz.prog 103 #[.agg (ag r r_heldV).toArray, iI n] w fun e w' => XRs w w' e (α := Option Addr × Nat) (fun y => .tuple #[.agg (ag (ay r n).1 (.slice y.1 ((ay r n).1.held.length) y.2)).toArray, .string ((ay r n).2)]) (fun y => [a9 B 89 2 (.slice y.1 ((ay r n).1.held.length) y.2) ((ay r n).1.held.map pC)]) := by
 obtain ⟨Arh,Crh,hvrh⟩ := hl_r_heldV.form
 rw [List.length_map] at hvrh; subst hvrh
 have hnrh := hl_r_heldV.len; rw [List.length_map] at hnrh
 have hqrh := Sl.capLe hl_r_heldV
 refine cn (args := [.agg (ag r (.slice Arh r.held.length Crh)).toArray,iI n]) (fn := Tryz.f103) [aJ (.slice Arh r.held.length Crh) 2 (r.held.map pC)] Tryz.func103 rfl Tryz.ntmps103 rfl (by simp only [List.mem_cons,List.not_mem_nil,or_false,forall_eq_or_imp,forall_eq]; exact ⟨rfl,hl_r_heldV⟩) ?_
 refine kQ <| cm [1,2,4] ⟨[(1,aI n),(2,.p 0 0),(4,.p 1 0)],[⟨37,ag r (.slice Arh r.held.length Crh)⟩,⟨37,eD⟩],[],[aJ (.slice Arh r.held.length Crh) 2 (r.held.map pC)]⟩ <| kQ <| dN 1 [1,2,4,7] [(1,aI n),(2,.p 0 0),(4,.p 1 0),(7,.v (.agg (ag r (.slice Arh r.held.length Crh)).toArray))] 51 [.agg (ag r (.slice Arh r.held.length Crh)).toArray] (some 8) rfl (cb fun ww hw hf => gw r (.slice Arh r.held.length Crh) ww (hf _ m0) (by assumption) w.heap.size hw) ?_
 rintro ⟨v1a,v1c⟩
 refine cm [1,2,4,6] ⟨[(1,aI n),(2,.p 0 0),(4,.p 1 0),(6,.p 2 0)],[⟨37,ag r (.slice Arh r.held.length Crh)⟩,⟨37,eD⟩,⟨37,ag r (.slice v1a r.held.length v1c)⟩],[],[a9 w.heap.size 89 2 (.slice v1a r.held.length v1c) (r.held.map pC),aJ (.slice Arh r.held.length Crh) 2 (r.held.map pC)]⟩ <| kS <| kQ <| dN 1 [1,2,4,6,9] [(1,aI n),(2,.p 0 0),(4,.p 1 0),(6,.p 2 0),(9,.v (.agg (ag r (.slice Arh r.held.length Crh)).toArray))] 66 [.agg (ag r (.slice Arh r.held.length Crh)).toArray] (some 10) rfl (aA fun ww hf => gy r (.slice Arh r.held.length Crh) ww (hf _ m1) (by assumption) (by omega)) ?_
 intro _
 refine aT [1,2,4,6,11] [(1,aI n),(2,.p 0 0),(4,.p 1 0),(6,.p 2 0),(11,aB (!(rO r)))] <| kC (!(rO r)) (fun h2 => ?_) (fun h2 => ?_)
 have h2n := bS h2
 refine kQ <| cm [4,5] ⟨[(4,.p 1 0),(5,.v (.string (⟨#[]⟩ : ByteArray)))],[⟨37,ag r (.slice Arh r.held.length Crh)⟩,⟨37,ag r (.slice v1a r.held.length v1c)⟩,⟨37,ag r (.slice v1a r.held.length v1c)⟩],[],[a9 w.heap.size 89 2 (.slice v1a r.held.length v1c) (r.held.map pC),aJ (.slice Arh r.held.length Crh) 2 (r.held.map pC)]⟩ <| kR ?_
 have hmod : ay r n = (r,(⟨#[]⟩ : ByteArray)) := by first | rfl | (simp [ay,cut, *]; done) | grind [ay,cut]
 exact ⟨[.agg (ag r (.slice v1a r.held.length v1c)).toArray,.string (⟨#[]⟩ : ByteArray)],by kernel_rfl,fun w' hb hf ha => by rw [hmod]; exact xo1 ((v1a,v1c)) rfl rfl (pW (hf _ m0) hB) hb⟩
 have h2n := aF h2
 refine kK <| kQ <| dN 4 [1,2,4,6,13,16] [(1,aI n),(2,.p 0 0),(4,.p 1 0),(6,.p 2 0),(13,aI n),(16,aI (r.data.size : Int))] 118 [iI n,iI (r.data.size : Int)] (some 17) rfl (c6 fun ww hf => fT n (r.data.size : Int) ww ) ?_
 intro _
 refine dN 0 [1,2,4,6,17] [(1,aI n),(2,.p 0 0),(4,.p 1 0),(6,.p 2 0),(17,aI (min n (r.data.size : Int)))] 95 [iI 0,iI (min n (r.data.size : Int))] (some 18) rfl (c6 fun ww hf => e7 0 (min n (r.data.size : Int)) ww ) ?_
 intro _
 refine aT [1,2,4,6] [(1,aI (max 0 (min n (r.data.size : Int)))),(2,.p 0 0),(4,.p 1 0),(6,.p 2 0)] <| kQ <| kOS 3 [1,2,4,6,20,21] [(1,aI (max 0 (min n (r.data.size : Int)))),(2,.p 0 0),(4,.p 1 0),(6,.p 2 0),(20,.v (.string r.data)),(21,aI (max 0 (min n (r.data.size : Int))))] (.string (r.data.extract (max 0 (min n (r.data.size : Int))).toNat r.data.size)) rfl (fun _ _ _ ww hr => act_slSe (max 0 (min n (r.data.size : Int))) hr.1 rfl (by kernel_rfl) rfl rfl (by omega) (by omega) ww) ?_
 refine cm [1,2,4,6] ⟨[(1,aI (max 0 (min n (r.data.size : Int)))),(2,.p 0 0),(4,.p 1 0),(6,.p 2 0)],[⟨37,ag r (.slice Arh r.held.length Crh)⟩,⟨37,eD⟩,⟨37,ag { r with data := r.data.extract (max 0 (min n (r.data.size : Int))).toNat r.data.size } (.slice v1a r.held.length v1c)⟩],[],[a9 w.heap.size 89 2 (.slice v1a r.held.length v1c) (r.held.map pC),aJ (.slice Arh r.held.length Crh) 2 (r.held.map pC)]⟩ <| kS <| bN [true,false,true] (by kernel_rfl) (fun ρ σ => ?_)
 refine cJ [0,1,2,3] [27,26,24,4] 3 [(27,aI (max 0 (min n (r.data.size : Int)))),(26,.v (.string r.data)),(24,.v (.agg (ag { r with data := r.data.extract (max 0 (min n (r.data.size : Int))).toNat r.data.size } (.slice v1a r.held.length v1c)).toArray)),(4,.p 1 0)] <| kX 4 (.string (r.data.extract 0 (max 0 (min n (r.data.size : Int))).toNat)) rfl (fun _ _ ww hA => act_slS0 (max 0 (min n (r.data.size : Int))) hA rfl (by kernel_rfl) rfl rfl (by omega) (by omega) ww) ?_
 refine kA [5] <| dg 5 1 0 (ag { r with data := r.data.extract (max 0 (min n (r.data.size : Int))).toNat r.data.size } (.slice v1a r.held.length v1c)) rfl <| cJ [6] [5,4] 0 [(5,.v (.string (r.data.extract 0 (max 0 (min n (r.data.size : Int))).toNat))),(4,.p 1 0)] <| kZ <| kR ?_
 have hmod : ay r n = (({ r with data := r.data.extract (max 0 (min n (r.data.size : Int))).toNat r.data.size }),(r.data.extract 0 (max 0 (min n (r.data.size : Int))).toNat)) := by first | rfl | (simp [ay,cut, *]; done) | grind [ay,cut]
 exact ⟨[.agg (ag { r with data := r.data.extract (max 0 (min n (r.data.size : Int))).toNat r.data.size } (.slice v1a r.held.length v1c)).toArray,.string (r.data.extract 0 (max 0 (min n (r.data.size : Int))).toNat)],by kernel_rfl,fun w' hb hf ha => by rw [hmod]; exact xo1 ((v1a,v1c)) rfl rfl (pW (hf _ m0) hB) hb⟩
theorem yl21State_c (c : Con) (rV : Value) (w : World) (hZ : Sl w rV 2 (c.r.held.map pC))  : Calls Tryz.prog 133 #[.agg (a6 c rV).toArray] w fun e w' => e = .returned (iI (tS c)) ∧ Below w.heap.size w w' := by
 obtain ⟨Z,Y,hY⟩ := hZ.form
 rw [List.length_map] at hY; subst hY
 have hJ := hZ.len; rw [List.length_map] at hJ
 have hqcrh := Sl.capLe hZ
 refine bZ (args := [.agg (a6 c (cS Z c Y)).toArray]) (fn := Tryz.f133) [cH Z c Y] Tryz.func133 rfl Tryz.ntmps133 rfl (by simp only [List.mem_cons,List.not_mem_nil,or_false,forall_eq_or_imp,forall_eq]; exact ⟨rfl,hZ⟩) ?_
 refine kQ <| cm [1] ⟨[(1,.p 0 0)],[⟨41,a6 c (cS Z c Y)⟩],[],[cH Z c Y]⟩ <| kS <| kQ <| aT [1,4] [(1,.p 0 0),(4,aI c.state)] ?_
 refine ao <| kQ <| aT [1,4,5] [(1,.p 0 0),(4,aI c.state),(5,aB (c.state == 1))] <| kC (c.state == 1) (fun h1 => ?_) (fun h1 => ?_)
 have h1p := cI h1
 refine kQ <| aT [1,9] [(1,.p 0 0),(9,aB c.r.done)] <| kC (c.r.done) (fun h2 => ?_) (fun h2 => ?_)
 refine kQ <| aT [2] [(2,aI 4)] <| kR ?_
 have hmod : tS c = 4 := by first | rfl | (simp [tS, *]; done) | grind [tS]
 exact ⟨[iI 4],by kernel_rfl,fun w' hb hf => by rw [hmod]; exact ⟨rfl,hb⟩⟩
 refine kK <| kQ <| aT [2] [(2,aI c.state)] <| kR ?_
 have hmod : tS c = c.state := by first | rfl | (simp [tS, *]; done) | grind [tS]
 exact ⟨[iI c.state],by kernel_rfl,fun w' hb hf => by rw [hmod]; exact ⟨rfl,hb⟩⟩
 have h1p := cB h1
 refine kQ <| aT [1,4,10] [(1,.p 0 0),(4,aI c.state),(10,aB (c.state == 2))] <| kC (c.state == 2) (fun h3 => ?_) (fun h3 => ?_)
 have h3p := cI h3
 refine ao <| kS <| ba ⟨[(1,.p 0 0),(12,aB (c.s.done && c.r.done))],[⟨41,a6 c (cS Z c Y)⟩],[],[cH Z c Y]⟩ ?_ ?_
 refine kG <| dt 4 [1,16] [(1,.p 0 0),(16,aB c.s.done)] <| kP 16 (c.s.done) (fun h4 => ?_) (fun h4 => ?_)
 refine aT [1,12] [(1,.p 0 0),(12,aB c.r.done)] ?_
 show Wk _ _
 try rw [h4]
 exact kF 1 0 [1,12]
 refine aT [1,12] [(1,.p 0 0),(12,aB false)] ?_
 show Wk _ _
 try rw [h4]
 exact kF 1 0 [1,12]
 refine kC (c.s.done && c.r.done) (fun h5 => ?_) (fun h5 => ?_)
 have h5l := and_l h5
 have h5r := and_r h5
 refine kQ <| aT [2] [(2,aI 7)] <| kR ?_
 have hmod : tS c = 7 := by first | rfl | (simp [tS, *]; done) | grind [tS]
 exact ⟨[iI 7],by kernel_rfl,fun w' hb hf => by rw [hmod]; exact ⟨rfl,hb⟩⟩
 refine kQ <| aT [1,21] [(1,.p 0 0),(21,aB c.s.done)] <| kC (c.s.done) (fun h6 => ?_) (fun h6 => ?_)
 refine kQ <| aT [2] [(2,aI 3)] <| kR ?_
 have hmod : tS c = 3 := by first | rfl | (simp [tS, *]; done) | grind [tS]
 exact ⟨[iI 3],by kernel_rfl,fun w' hb hf => by rw [hmod]; exact ⟨rfl,hb⟩⟩
 refine kQ <| aT [1,25] [(1,.p 0 0),(25,aB c.r.done)] <| kC (c.r.done) (fun h7 => ?_) (fun h7 => ?_)
 refine kQ <| aT [2] [(2,aI 5)] <| kR ?_
 have hmod : tS c = 5 := by first | rfl | (simp [tS, *]; done) | grind [tS]
 exact ⟨[iI 5],by kernel_rfl,fun w' hb hf => by rw [hmod]; exact ⟨rfl,hb⟩⟩
 refine kK <| kQ <| aT [2] [(2,aI c.state)] <| kR ?_
 have hmod : tS c = c.state := by first | rfl | (simp [tS, *]; done) | grind [tS]
 exact ⟨[iI c.state],by kernel_rfl,fun w' hb hf => by rw [hmod]; exact ⟨rfl,hb⟩⟩
 have h3p := cB h3
 refine kQ <| aT [1,4,29] [(1,.p 0 0),(4,aI c.state),(29,aB (c.state == 3))] <| kC (c.state == 3) (fun h8 => ?_) (fun h8 => ?_)
 have h8p := cI h8
 refine kQ <| aT [1,33] [(1,.p 0 0),(33,aB c.r.done)] <| kC (c.r.done) (fun h9 => ?_) (fun h9 => ?_)
 refine kQ <| aT [2] [(2,aI 7)] <| kR ?_
 have hmod : tS c = 7 := by first | rfl | (simp [tS, *]; done) | grind [tS]
 exact ⟨[iI 7],by kernel_rfl,fun w' hb hf => by rw [hmod]; exact ⟨rfl,hb⟩⟩
 refine kK <| kQ <| aT [2] [(2,aI c.state)] <| kR ?_
 have hmod : tS c = c.state := by first | rfl | (simp [tS, *]; done) | grind [tS]
 exact ⟨[iI c.state],by kernel_rfl,fun w' hb hf => by rw [hmod]; exact ⟨rfl,hb⟩⟩
 have h8p := cB h8
 refine kQ <| aT [1,4,34] [(1,.p 0 0),(4,aI c.state),(34,aB (c.state == 5))] <| kC (c.state == 5) (fun h10 => ?_) (fun h10 => ?_)
 have h10p := cI h10
 refine kQ <| aT [1,38] [(1,.p 0 0),(38,aB c.s.done)] <| kC (c.s.done) (fun h11 => ?_) (fun h11 => ?_)
 refine kQ <| aT [2] [(2,aI 7)] <| kR ?_
 have hmod : tS c = 7 := by first | rfl | (simp [tS, *]; done) | grind [tS]
 exact ⟨[iI 7],by kernel_rfl,fun w' hb hf => by rw [hmod]; exact ⟨rfl,hb⟩⟩
 refine kK <| kQ <| aT [2] [(2,aI c.state)] <| kR ?_
 have hmod : tS c = c.state := by first | rfl | (simp [tS, *]; done) | grind [tS]
 exact ⟨[iI c.state],by kernel_rfl,fun w' hb hf => by rw [hmod]; exact ⟨rfl,hb⟩⟩
 have h10p := cB h10
 refine kQ <| aT [1,39] [(1,.p 0 0),(39,aB (c.state == 6))] <| kC (c.state == 6) (fun h12 => ?_) (fun h12 => ?_)
 have h12p := cI h12
 refine kQ <| aT [1,43] [(1,.p 0 0),(43,aB c.s.done)] <| kC (c.s.done) (fun h13 => ?_) (fun h13 => ?_)
 refine kQ <| aT [2] [(2,aI 8)] <| kR ?_
 have hmod : tS c = 8 := by first | rfl | (simp [tS, *]; done) | grind [tS]
 exact ⟨[iI 8],by kernel_rfl,fun w' hb hf => by rw [hmod]; exact ⟨rfl,hb⟩⟩
 refine kK <| kQ <| aT [2] [(2,aI c.state)] <| kR ?_
 have hmod : tS c = c.state := by first | rfl | (simp [tS, *]; done) | grind [tS]
 exact ⟨[iI c.state],by kernel_rfl,fun w' hb hf => by rw [hmod]; exact ⟨rfl,hb⟩⟩
 have h12p := cB h12
 refine kK <| kQ <| aT [2] [(2,aI c.state)] <| kR ?_
 have hmod : tS c = c.state := by first | rfl | (simp [tS, *]; done) | grind [tS]
 exact ⟨[iI c.state],by kernel_rfl,fun w' hb hf => by rw [hmod]; exact ⟨rfl,hb⟩⟩
theorem ysTurned_c (c : Con) (rV : Value) (w : World) (hZ : Sl w rV 2 (c.r.held.map pC)) (hkn : c.r.held.length ≤ 1048576)(hm : ∀ p ∈ c.r.held, p.text.size ≤ 1048576) (hsz : c.r.data.size ≤ 4611686018427387904) (B : Nat) (hB : B ≤ w.heap.size) : Calls Tryz.prog 126 #[.agg (a6 c rV).toArray] w fun e w' => XRs w w' e (α := Option Addr × Nat) (fun y => .agg (a6 (c7 c) (.slice y.1 ((c7 c).r.held.length) y.2)).toArray) (fun y => [bm B (.slice y.1 ((c7 c).r.held.length) y.2) 2 ((c7 c).r.held.map pC)]) := by
 obtain ⟨Z,Y,hY⟩ := hZ.form
 rw [List.length_map] at hY; subst hY
 have hJ := hZ.len; rw [List.length_map] at hJ
 have hqcrh := Sl.capLe hZ
 have ht : aX { c with state := tS c,timer := 0 } = (aX { c with state := tS c,timer := 0,tries := 0 } && bA c.tries 0 3) := conOk_tries _
 refine cn (args := [.agg (a6 c (cS Z c Y)).toArray]) (fn := Tryz.f126) [cH Z c Y] Tryz.func126 rfl Tryz.ntmps126 rfl (by simp only [List.mem_cons,List.not_mem_nil,or_false,forall_eq_or_imp,forall_eq]; exact ⟨rfl,hZ⟩) ?_
 refine kQ <| cm [1,2] ⟨[(1,.p 0 0),(2,.p 1 0)],[⟨41,a6 c (cS Z c Y)⟩,⟨41,cN⟩],[],[cH Z c Y]⟩ <| kQ <| dN 1 [1,2,4] [(1,.p 0 0),(2,.p 1 0),(4,.v (.agg (a6 c (cS Z c Y)).toArray))] 28 [.agg (a6 c (cS Z c Y)).toArray] (some 5) rfl (cb fun ww hw hf => d2 c (cS Z c Y) ww (hf _ m0) (by assumption) w.heap.size hw) ?_
 rintro ⟨v1a,v1c⟩
 refine cm [1,2,3] ⟨[(1,.p 0 0),(2,.p 1 0),(3,.p 2 0)],[⟨41,a6 c (cS Z c Y)⟩,⟨41,cN⟩,⟨41,a6 c (cS v1a c v1c)⟩],[],[bm w.heap.size (cS v1a c v1c) 2 (c.r.held.map pC),cH Z c Y]⟩ <| kQ <| dN 1 [1,2,3,6] [(1,.p 0 0),(2,.p 1 0),(3,.p 2 0),(6,.v (.agg (a6 c (cS Z c Y)).toArray))] 133 [.agg (a6 c (cS Z c Y)).toArray] (some 7) rfl (aA fun ww hf => yl21State_c c (cS Z c Y) ww (hf _ m1) ) ?_
 intro _
 refine cm [1,2,3] ⟨[(1,.p 0 0),(2,.p 1 0),(3,.p 2 0)],[⟨41,a6 c (cS Z c Y)⟩,⟨41,cN⟩,⟨41,a6 { c with state := (tS c) } (cS v1a c v1c)⟩],[],[bm w.heap.size (cS v1a c v1c) 2 (c.r.held.map pC),cH Z c Y]⟩ <| kS <| kS <| ba ⟨[(1,.p 0 0),(2,.p 1 0),(3,.p 2 0),(37,aB ((!(aX ({ c with state := (tS c),timer := 0,tries := 0 }))) || ((!(bA c.timer 0 4)) || (!(bA c.tries 0 3)))))],[⟨41,a6 c (cS Z c Y)⟩,⟨41,cN⟩,⟨41,a6 { c with state := (tS c) } (cS v1a c v1c)⟩],[],[bm w.heap.size (cS v1a c v1c) 2 (c.r.held.map pC),cH Z c Y]⟩ ?_ ?_
 refine kG <| kOS 14 [1,2,3,10,12,14,16,18,20,22] [(1,.p 0 0),(2,.p 1 0),(3,.p 2 0),(10,.v (.agg (bX c.t).toArray)),(12,aI (tS c)),(14,.v (.agg (ai c.s).toArray)),(16,.v (.agg (ag c.r (cS Z c Y)).toArray)),(18,aI c.window),(20,aI c.most),(22,.v (.agg (dH c.o).toArray))] (.agg (a6 { c with state := (tS c),timer := 0,tries := 0 } (cS Z c Y)).toArray) rfl (fun _ _ _ ww hr => bn [(0,.agg (bX c.t).toArray),(1,iI (tS c)),(2,.agg (ai c.s).toArray),(3,.agg (ag c.r (cS Z c Y)).toArray),(4,iI c.window),(5,iI c.most),(6,.agg (dH c.o).toArray)] hr.1 rfl (by kernel_rfl) (by kernel_rfl) ww) ?_
 refine dN 0 [1,2,3,23] [(1,.p 0 0),(2,.p 1 0),(3,.p 2 0),(23,.v (.agg (a6 { c with state := (tS c),timer := 0,tries := 0 } (cS Z c Y)).toArray))] 37 [.agg (a6 { c with state := (tS c),timer := 0,tries := 0 } (cS Z c Y)).toArray] (some 24) rfl (aA fun ww hf => e8 ({ c with state := (tS c),timer := 0,tries := 0 }) (cS Z c Y) ww (hf _ m1) (by assumption) (by omega)) ?_
 intro _
 refine dt 2 [1,2,3,26] [(1,.p 0 0),(2,.p 1 0),(3,.p 2 0),(26,aB (!(aX ({ c with state := (tS c),timer := 0,tries := 0 }))))] <| kP 26 (!(aX ({ c with state := (tS c),timer := 0,tries := 0 }))) (fun h2 => ?_) (fun h2 => ?_)
 have h2n := bS h2
 refine aT [1,2,3,37] [(1,.p 0 0),(2,.p 1 0),(3,.p 2 0),(37,aB true)] ?_
 show Wk _ _
 try rw [h2]
 exact kF 3 0 [1,2,3,37]
 have h2n := aF h2
 refine dN 2 [1,2,3,26,28] [(1,.p 0 0),(2,.p 1 0),(3,.p 2 0),(26,aB false),(28,aI c.timer)] 63 [iI c.timer,iI 0,iI 4] (some 29) rfl (c6 fun ww hf => e9 c.timer 0 4 ww ) ?_
 intro _
 refine dt 3 [1,2,3,32] [(1,.p 0 0),(2,.p 1 0),(3,.p 2 0),(32,aB (!(bA c.timer 0 4)))] <| kP 32 (!(bA c.timer 0 4)) (fun h3 => ?_) (fun h3 => ?_)
 have h3n := bS h3
 have h3ni := inB_ff.1 (show bA c.timer 0 4 = false from by simpa using h3n)
 refine aT [1,2,3,37] [(1,.p 0 0),(2,.p 1 0),(3,.p 2 0),(37,aB true)] ?_
 show Wk _ _
 try rw [h2]
 try rw [h3]
 exact kF 3 0 [1,2,3,37]
 have h3n := aF h3
 have h3ni := inB_tt.1 (show bA c.timer 0 4 = true from by simpa using h3n)
 refine dN 2 [1,2,3,32,34] [(1,.p 0 0),(2,.p 1 0),(3,.p 2 0),(32,aB false),(34,aI c.tries)] 63 [iI c.tries,iI 0,iI 3] (some 35) rfl (c6 fun ww hf => e9 c.tries 0 3 ww ) ?_
 intro _
 refine aT [1,2,3,37] [(1,.p 0 0),(2,.p 1 0),(3,.p 2 0),(37,aB (!(bA c.tries 0 3)))] ?_
 show Wk _ _
 try rw [h2]
 try rw [h3]
 exact kF 3 0 [1,2,3,37]
 refine kC ((!(aX ({ c with state := (tS c),timer := 0,tries := 0 }))) || ((!(bA c.timer 0 4)) || (!(bA c.tries 0 3)))) (fun h4 => ?_) (fun h4 => ?_)
 refine kQ <| dN 1 [2,38] [(2,.p 1 0),(38,.v (.agg (a6 c (cS Z c Y)).toArray))] 28 [.agg (a6 c (cS Z c Y)).toArray] (some 39) rfl (cb fun ww hw hf => d2 c (cS Z c Y) ww (hf _ m1) (by assumption) w.heap.size hw) ?_
 rintro ⟨v5a,v5c⟩
 refine cm [2] ⟨[(2,.p 1 0)],[⟨41,a6 c (cS Z c Y)⟩,⟨41,a6 c (cS v5a c v5c)⟩,⟨41,a6 { c with state := (tS c) } (cS v1a c v1c)⟩],[],[bm w.heap.size (cS v5a c v5c) 2 (c.r.held.map pC),bm w.heap.size (cS v1a c v1c) 2 (c.r.held.map pC),cH Z c Y]⟩ <| kR ?_
 have hmod : c7 c = c := by first | rfl | (simp [c7, *]; done) | grind [c7] | grind [c7,tS] | (unfold c7; rw [← hkk,if_neg hkn]; grind)
 exact ⟨[.agg (a6 c (cS v5a c v5c)).toArray],by kernel_rfl,fun w' hb hf ha => by rw [hmod]; exact xo1 ((v5a,v5c)) rfl rfl (pO (hf _ m0) hB) hb⟩
 have h4l := fa h4
 have h4ln := aF h4l
 have h4r := fc h4
 have h4rl := fa h4r
 have h4rln := aF h4rl
 have h4rlni := inB_tt.1 (show bA c.timer 0 4 = true from by simpa using h4rln)
 have h4rr := fc h4r
 have h4rrn := aF h4rr
 have h4rrni := inB_tt.1 (show bA c.tries 0 3 = true from by simpa using h4rrn)
 refine kK <| kS <| kQ <| aT [2,3,44] [(2,.p 1 0),(3,.p 2 0),(44,aB ((tS c) == c.state))] ?_
 refine kC ((tS c) == c.state) (fun h6 => ?_) (fun h6 => ?_)
 have h6p := cI h6
 refine kQ <| cm [2] ⟨[(2,.p 1 0)],[⟨41,a6 c (cS Z c Y)⟩,⟨41,a6 { c with state := (tS c) } (cS v1a c v1c)⟩,⟨41,a6 { c with state := (tS c) } (cS v1a c v1c)⟩],[],[bm w.heap.size (cS v1a c v1c) 2 (c.r.held.map pC),cH Z c Y]⟩ <| kR ?_
 have hmod : c7 c = ({ c with state := (tS c) }) := by first | rfl | (simp [c7, *]; done) | grind [c7] | grind [c7,tS] | (unfold c7; rw [← hkk,if_neg hkn]; grind)
 exact ⟨[.agg (a6 { c with state := (tS c) } (cS v1a c v1c)).toArray],by kernel_rfl,fun w' hb hf ha => by rw [hmod]; exact xo1 ((v1a,v1c)) rfl rfl (pO (hf _ m0) hB) hb⟩
 have h6p := cB h6
 refine kK <| kS <| kQ <| aT [2,3,48] [(2,.p 1 0),(3,.p 2 0),(48,aB ((tS c) == 7))] ?_
 refine ba ⟨[(2,.p 1 0),(3,.p 2 0)],[⟨41,a6 c (cS Z c Y)⟩,⟨41,cN⟩,⟨41,a6 { c with state := (tS c),timer := if ((tS c) == 7) = true then 4 else c.timer,tries := if ((tS c) == 7) = true then 0 else c.tries } (cS v1a c v1c)⟩],[],[bm w.heap.size (cS v1a c v1c) 2 (c.r.held.map pC),cH Z c Y]⟩ ?_ ?_
 refine kC ((tS c) == 7) (fun h7 => ?_) (fun h7 => ?_)
 have h7p := cI h7
 refine kQ <| cm [2,3] ⟨[(2,.p 1 0),(3,.p 2 0)],[⟨41,a6 c (cS Z c Y)⟩,⟨41,cN⟩,⟨41,a6 { c with state := (tS c),timer := 4 } (cS v1a c v1c)⟩],[],[bm w.heap.size (cS v1a c v1c) 2 (c.r.held.map pC),cH Z c Y]⟩ <| kG <| cm [2,3] ⟨[(2,.p 1 0),(3,.p 2 0)],[⟨41,a6 c (cS Z c Y)⟩,⟨41,cN⟩,⟨41,a6 { c with state := (tS c),timer := 4,tries := 0 } (cS v1a c v1c)⟩],[],[bm w.heap.size (cS v1a c v1c) 2 (c.r.held.map pC),cH Z c Y]⟩ ?_
 show Wk _ _; rw [h7]; exact kF 3 0 [2,3]
 have h7p := cB h7
 refine kK ?_
 show Wk _ _; rw [h7]; exact kF 3 0 [2,3]
 refine kS <| kQ <| aT [2,3,53] [(2,.p 1 0),(3,.p 2 0),(53,aB ((tS c) == 8))] <| ba ⟨[(2,.p 1 0),(3,.p 2 0)],[⟨41,a6 c (cS Z c Y)⟩,⟨41,cN⟩,⟨41,a6 { c with state := (tS c),timer := if ((tS c) == 8) = true then 0 else if ((tS c) == 7) = true then 4 else c.timer,tries := if ((tS c) == 8) = true then 0 else if ((tS c) == 7) = true then 0 else c.tries } (cS v1a c v1c)⟩],[],[bm w.heap.size (cS v1a c v1c) 2 (c.r.held.map pC),cH Z c Y]⟩ ?_ ?_
 refine kC ((tS c) == 8) (fun h8 => ?_) (fun h8 => ?_)
 have h8p := cI h8
 refine kQ <| cm [2,3] ⟨[(2,.p 1 0),(3,.p 2 0)],[⟨41,a6 c (cS Z c Y)⟩,⟨41,cN⟩,⟨41,a6 { c with state := (tS c),timer := 0,tries := if ((tS c) == 7) = true then 0 else c.tries } (cS v1a c v1c)⟩],[],[bm w.heap.size (cS v1a c v1c) 2 (c.r.held.map pC),cH Z c Y]⟩ <| kG <| cm [2,3] ⟨[(2,.p 1 0),(3,.p 2 0)],[⟨41,a6 c (cS Z c Y)⟩,⟨41,cN⟩,⟨41,a6 { c with state := (tS c),timer := 0,tries := 0 } (cS v1a c v1c)⟩],[],[bm w.heap.size (cS v1a c v1c) 2 (c.r.held.map pC),cH Z c Y]⟩ ?_
 show Wk _ _; rw [h8]; exact kF 3 0 [2,3]
 have h8p := cB h8
 refine kK ?_
 show Wk _ _; rw [h8]; exact kF 3 0 [2,3]
 refine kQ <| cm [2] ⟨[(2,.p 1 0)],[⟨41,a6 c (cS Z c Y)⟩,⟨41,a6 { c with state := (tS c),timer := if ((tS c) == 8) = true then 0 else if ((tS c) == 7) = true then 4 else c.timer,tries := if ((tS c) == 8) = true then 0 else if ((tS c) == 7) = true then 0 else c.tries } (cS v1a c v1c)⟩,⟨41,a6 { c with state := (tS c),timer := if ((tS c) == 8) = true then 0 else if ((tS c) == 7) = true then 4 else c.timer,tries := if ((tS c) == 8) = true then 0 else if ((tS c) == 7) = true then 0 else c.tries } (cS v1a c v1c)⟩],[],[bm w.heap.size (cS v1a c v1c) 2 (c.r.held.map pC),cH Z c Y]⟩ <| kR ?_
 have hmod : c7 c = ({ c with state := (tS c),timer := if ((tS c) == 8) = true then 0 else if ((tS c) == 7) = true then 4 else c.timer,tries := if ((tS c) == 8) = true then 0 else if ((tS c) == 7) = true then 0 else c.tries }) := by first | rfl | (simp [c7, *]; done) | grind [c7] | grind [c7,tS] | (unfold c7; rw [← hkk,if_neg hkn]; grind)
 exact ⟨[.agg (a6 { c with state := (tS c),timer := if ((tS c) == 8) = true then 0 else if ((tS c) == 7) = true then 4 else c.timer,tries := if ((tS c) == 8) = true then 0 else if ((tS c) == 7) = true then 0 else c.tries } (cS v1a c v1c)).toArray],by kernel_rfl,fun w' hb hf ha => by rw [hmod]; exact xo1 ((v1a,v1c)) rfl rfl (pO (hf _ m0) hB) hb⟩
theorem ysReadConn_c (c : Con) (rV : Value) (n : Int) (w : World) (hZ : Sl w rV 2 (c.r.held.map pC)) (hkn : c.r.held.length ≤ 1048576)(hm : ∀ p ∈ c.r.held, p.text.size ≤ 1048576) (hsz : c.r.data.size ≤ 4611686018427387904) (B : Nat) (hB : B ≤ w.heap.size) : Calls Tryz.prog 80 #[.agg (a6 c rV).toArray, iI n] w fun e w' => XRs w w' e (α := (Option Addr × Nat) × (Option Addr × Nat)) (fun y => .tuple #[.agg (a6 (bh c n).1 (.slice y.1.1 ((bh c n).1.r.held.length) y.1.2)).toArray, .string ((bh c n).2.1), .slice y.2.1 ((bh c n).2.2.length) y.2.2]) (fun y => [bm B (.slice y.1.1 ((bh c n).1.r.held.length) y.1.2) 2 ((bh c n).1.r.held.map pC), bm B (.slice y.2.1 ((bh c n).2.2.length) y.2.2) 13 ((bh c n).2.2.map aj)]) := by
 obtain ⟨Z,Y,hY⟩ := hZ.form
 rw [List.length_map] at hY; subst hY
 have hJ := hZ.len; rw [List.length_map] at hJ
 have hqcrh := Sl.capLe hZ
 have hwb := ff (ay c.r n).1
 refine cn (args := [.agg (a6 c (cS Z c Y)).toArray,iI n]) (fn := Tryz.f80) [cH Z c Y] Tryz.func80 rfl Tryz.ntmps80 rfl (by simp only [List.mem_cons,List.not_mem_nil,or_false,forall_eq_or_imp,forall_eq]; exact ⟨rfl,hZ⟩) ?_
 refine kQ <| cm [1,2,4] ⟨[(1,aI n),(2,.p 0 0),(4,.p 1 0)],[⟨41,a6 c (cS Z c Y)⟩,⟨41,cN⟩],[],[cH Z c Y]⟩ <| kQ <| dN 1 [1,2,4,11] [(1,aI n),(2,.p 0 0),(4,.p 1 0),(11,.v (.agg (a6 c (cS Z c Y)).toArray))] 28 [.agg (a6 c (cS Z c Y)).toArray] (some 12) rfl (cb fun ww hw hf => d2 c (cS Z c Y) ww (hf _ m0) (by assumption) w.heap.size hw) ?_
 rintro ⟨v1a,v1c⟩
 refine cm [1,2,4,7] ⟨[(1,aI n),(2,.p 0 0),(4,.p 1 0),(7,.p 2 0)],[⟨41,a6 c (cS Z c Y)⟩,⟨41,cN⟩,⟨41,a6 c (cS v1a c v1c)⟩],[],[bm w.heap.size (cS v1a c v1c) 2 (c.r.held.map pC),cH Z c Y]⟩ <| kQ <| kHS 0 [1,2,4,7] [(1,aI n),(2,.p 0 0),(4,.p 1 0),(7,.p 2 0)] rfl (aH (e := 105) (K := 13) (bytes := 104) [] (rs := ([] : List Seg).map aj) rfl rfl) ?_
 intro g2
 refine aT [1,2,4,7,8] [(1,aI n),(2,.p 0 0),(4,.p 1 0),(7,.p 2 0),(8,.v (.slice (some ⟨g2,0,none⟩) 0 0))] <| kS <| kQ <| dN 1 [1,2,4,7,8,14] [(1,aI n),(2,.p 0 0),(4,.p 1 0),(7,.p 2 0),(8,.v (.slice (some ⟨g2,0,none⟩) 0 0)),(14,.v (.agg (a6 c (cS Z c Y)).toArray))] 37 [.agg (a6 c (cS Z c Y)).toArray] (some 15) rfl (aA fun ww hf => e8 c (cS Z c Y) ww (hf _ m2) (by assumption) (by omega)) ?_
 intro _
 refine aT [1,2,4,7,8,16] [(1,aI n),(2,.p 0 0),(4,.p 1 0),(7,.p 2 0),(8,.v (.slice (some ⟨g2,0,none⟩) 0 0)),(16,aB (!(aX c)))] <| kC (!(aX c)) (fun h3 => ?_) (fun h3 => ?_)
 have h3n := bS h3
 refine kQ <| cm [4,5,6] ⟨[(4,.p 1 0),(5,.v (.string (⟨#[]⟩ : ByteArray))),(6,.v (.slice (some ⟨g2,0,none⟩) 0 0))],[⟨41,a6 c (cS Z c Y)⟩,⟨41,a6 c (cS v1a c v1c)⟩,⟨41,a6 c (cS v1a c v1c)⟩],[],[a9 w.heap.size 105 13 (.slice (some ⟨g2,0,none⟩) 0 0) (([] : List Seg).map aj),bm w.heap.size (cS v1a c v1c) 2 (c.r.held.map pC),cH Z c Y]⟩ <| kR ?_
 have hmod : bh c n = (c,(⟨#[]⟩ : ByteArray),([] : List Seg)) := by first | rfl | (simp [bh,c8, *]; done) | grind [bh,c8]
 exact ⟨[.agg (a6 c (cS v1a c v1c)).toArray,.string (⟨#[]⟩ : ByteArray),.slice (some ⟨g2,0,none⟩) 0 0],by kernel_rfl,fun w' hb hf ha => by rw [hmod]; exact xo2 ((v1a,v1c),(((some ⟨g2,0,none⟩) : Option Addr),0)) rfl rfl (pO (hf _ m1) hB) (pR (hf _ m0) hB) (Apart.sub2 ha (i := 1) (j := 0) rfl rfl (by decide) rfl (fun b h => h) (fun b h => bO h)) hb⟩
 have h3n := aF h3
 refine kK <| kQ <| dN 3 [2,4,7,8,21,22] [(2,.p 0 0),(4,.p 1 0),(7,.p 2 0),(8,.v (.slice (some ⟨g2,0,none⟩) 0 0)),(21,.v (.agg (ag c.r (cS Z c Y)).toArray)),(22,aI n)] 103 [.agg (ag c.r (cS Z c Y)).toArray,iI n] (some 23) rfl (cb fun ww hw hf => ysTakenIn_c c.r (cS Z c Y) n ww (hf _ m2) (by assumption) (by assumption) (by omega) w.heap.size hw) ?_
 rintro ⟨v4a,v4c⟩
 have htk5 : (ay c.r n).1.data.size ≤ _ := takenIn_sz _ _
 refine cm [2,4,7,8,9,10] ⟨[(2,.p 0 0),(4,.p 1 0),(7,.p 2 0),(8,.v (.slice (some ⟨g2,0,none⟩) 0 0)),(9,.p 3 0),(10,.v (.string ((ay c.r n).2)))],[⟨41,a6 c (cS Z c Y)⟩,⟨41,cN⟩,⟨41,a6 c (cS v1a c v1c)⟩,⟨37,ag (ay c.r n).1 (.slice v4a ((ay c.r n).1.held.length) v4c)⟩],[],[a9 w.heap.size 89 2 (.slice v4a ((ay c.r n).1.held.length) v4c) ((ay c.r n).1.held.map pC),a9 w.heap.size 105 13 (.slice (some ⟨g2,0,none⟩) 0 0) (([] : List Seg).map aj),bm w.heap.size (cS v1a c v1c) 2 (c.r.held.map pC),cH Z c Y]⟩ <| kQ <| cm [2,4,7,8,9,10] ⟨[(2,.p 0 0),(4,.p 1 0),(7,.p 2 0),(8,.v (.slice (some ⟨g2,0,none⟩) 0 0)),(9,.p 3 0),(10,.v (.string ((ay c.r n).2)))],[⟨41,a6 c (cS Z c Y)⟩,⟨41,cN⟩,⟨41,a6 { c with r := (ay c.r n).1 } (.slice v4a ((ay c.r n).1.held.length) v4c)⟩,⟨37,ag (ay c.r n).1 (.slice v4a ((ay c.r n).1.held.length) v4c)⟩],[],[a9 w.heap.size 89 2 (.slice v4a ((ay c.r n).1.held.length) v4c) ((ay c.r n).1.held.map pC),a9 w.heap.size 105 13 (.slice (some ⟨g2,0,none⟩) 0 0) (([] : List Seg).map aj),bm w.heap.size (cS v1a c v1c) 2 (c.r.held.map pC),cH Z c Y]⟩ <| kS <| kS <| ba ⟨[(4,.p 1 0),(7,.p 2 0),(8,.v (.slice (some ⟨g2,0,none⟩) 0 0)),(10,.v (.string ((ay c.r n).2))),(46,aB (((wO c.r) == 0) && ((decide ((wO ((ay c.r n).1)) > 0)) && ((c.state != 8) && (c.state != 7)))))],[⟨41,a6 c (cS Z c Y)⟩,⟨41,cN⟩,⟨41,a6 { c with r := (ay c.r n).1 } (.slice v4a ((ay c.r n).1.held.length) v4c)⟩,⟨37,ag (ay c.r n).1 (.slice v4a ((ay c.r n).1.held.length) v4c)⟩],[],[a9 w.heap.size 89 2 (.slice v4a ((ay c.r n).1.held.length) v4c) ((ay c.r n).1.held.map pC),a9 w.heap.size 105 13 (.slice (some ⟨g2,0,none⟩) 0 0) (([] : List Seg).map aj),bm w.heap.size (cS v1a c v1c) 2 (c.r.held.map pC),cH Z c Y]⟩ ?_ ?_
 refine kG <| dN 2 [2,4,7,8,9,10,29] [(2,.p 0 0),(4,.p 1 0),(7,.p 2 0),(8,.v (.slice (some ⟨g2,0,none⟩) 0 0)),(9,.p 3 0),(10,.v (.string ((ay c.r n).2))),(29,.v (.agg (ag c.r (cS Z c Y)).toArray))] 92 [.agg (ag c.r (cS Z c Y)).toArray] (some 30) rfl (aA fun ww hf => eX c.r.next c.r.data c.r.held (cS Z c Y) c.r.fin c.r.done ww (by omega)) ?_
 intro _
 refine dt 2 [2,4,7,8,9,10,32] [(2,.p 0 0),(4,.p 1 0),(7,.p 2 0),(8,.v (.slice (some ⟨g2,0,none⟩) 0 0)),(9,.p 3 0),(10,.v (.string ((ay c.r n).2))),(32,aB ((wO c.r) == 0))] <| kP 32 ((wO c.r) == 0) (fun h6 => ?_) (fun h6 => ?_)
 have h6p := cI h6
 refine dN 1 [2,4,7,8,10,32,33] [(2,.p 0 0),(4,.p 1 0),(7,.p 2 0),(8,.v (.slice (some ⟨g2,0,none⟩) 0 0)),(10,.v (.string ((ay c.r n).2))),(32,aB true),(33,.v (.agg (ag (ay c.r n).1 (.slice v4a ((ay c.r n).1.held.length) v4c)).toArray))] 92 [.agg (ag (ay c.r n).1 (.slice v4a ((ay c.r n).1.held.length) v4c)).toArray] (some 34) rfl (aA fun ww hf => eX ((ay c.r n).1.next) ((ay c.r n).1.data) ((ay c.r n).1.held) (.slice v4a ((ay c.r n).1.held.length) v4c) ((ay c.r n).1.fin) ((ay c.r n).1.done) ww (by omega)) ?_
 intro _
 refine dt 3 [2,4,7,8,10,37] [(2,.p 0 0),(4,.p 1 0),(7,.p 2 0),(8,.v (.slice (some ⟨g2,0,none⟩) 0 0)),(10,.v (.string ((ay c.r n).2))),(37,aB (decide ((wO ((ay c.r n).1)) > 0)))] <| kP 37 (decide ((wO ((ay c.r n).1)) > 0)) (fun h7 => ?_) (fun h7 => ?_)
 have h7p := of_decide_eq_true h7
 refine dt 5 [2,4,7,8,10,42] [(2,.p 0 0),(4,.p 1 0),(7,.p 2 0),(8,.v (.slice (some ⟨g2,0,none⟩) 0 0)),(10,.v (.string ((ay c.r n).2))),(42,aB (c.state != 8))] <| kP 42 (c.state != 8) (fun h8 => ?_) (fun h8 => ?_)
 have h8p := neT h8
 refine aT [4,7,8,10,46] [(4,.p 1 0),(7,.p 2 0),(8,.v (.slice (some ⟨g2,0,none⟩) 0 0)),(10,.v (.string ((ay c.r n).2))),(46,aB (c.state != 7))] ?_
 show Wk _ _
 try rw [h6]
 try rw [h7]
 try rw [h8]
 exact kF 4 0 [4,7,8,10,46]
 have h8p := neF h8
 refine aT [4,7,8,10,46] [(4,.p 1 0),(7,.p 2 0),(8,.v (.slice (some ⟨g2,0,none⟩) 0 0)),(10,.v (.string ((ay c.r n).2))),(46,aB false)] ?_
 show Wk _ _
 try rw [h6]
 try rw [h7]
 try rw [h8]
 exact kF 4 0 [4,7,8,10,46]
 have h7p := of_decide_eq_false h7
 refine aT [4,7,8,10,46] [(4,.p 1 0),(7,.p 2 0),(8,.v (.slice (some ⟨g2,0,none⟩) 0 0)),(10,.v (.string ((ay c.r n).2))),(46,aB false)] ?_
 show Wk _ _
 try rw [h6]
 try rw [h7]
 exact kF 4 0 [4,7,8,10,46]
 have h6p := cB h6
 refine aT [4,7,8,10,46] [(4,.p 1 0),(7,.p 2 0),(8,.v (.slice (some ⟨g2,0,none⟩) 0 0)),(10,.v (.string ((ay c.r n).2))),(46,aB false)] ?_
 show Wk _ _
 try rw [h6]
 exact kF 4 0 [4,7,8,10,46]
 refine kC (((wO c.r) == 0) && ((decide ((wO ((ay c.r n).1)) > 0)) && ((c.state != 8) && (c.state != 7)))) (fun h9 => ?_) (fun h9 => ?_)
 have h9l := and_l h9
 have h9lp := cI h9l
 have h9r := and_r h9
 have h9rl := and_l h9r
 have h9rr := and_r h9r
 have h9rrl := and_l h9rr
 have h9rrlp := neT h9rrl
 have h9rrr := and_r h9rr
 have h9rrrp := neT h9rrr
 refine kS <| ed (α := Nat) (fun y => (fun (g11 : Nat) => (⟨[(4,.p 1 0),(5,.v (.string ((ay c.r n).2))),(6,.v (.slice (some ⟨g11,0,none⟩) 1 1))],[⟨41,a6 c (cS Z c Y)⟩,⟨41,a6 { c with r := (ay c.r n).1 } (.slice v4a ((ay c.r n).1.held.length) v4c)⟩,⟨41,a6 { c with r := (ay c.r n).1 } (.slice v4a ((ay c.r n).1.held.length) v4c)⟩,⟨37,ag (ay c.r n).1 (.slice v4a ((ay c.r n).1.held.length) v4c)⟩],[],[a9 w.heap.size 105 13 (.slice (some ⟨g11,0,none⟩) 1 1) (([⟨c.t.my,c.t.port,ac c.s,(ay c.r n).1.next,16,wO ((ay c.r n).1),⟨0,(-1),false,false,0,0⟩,(⟨#[]⟩ : ByteArray)⟩] : List Seg).map aj),a9 w.heap.size 89 2 (.slice v4a ((ay c.r n).1.held.length) v4c) ((ay c.r n).1.held.map pC),a9 w.heap.size 105 13 (.slice (some ⟨g2,0,none⟩) 0 0) (([] : List Seg).map aj),bm w.heap.size (cS v1a c v1c) 2 (c.r.held.map pC),cH Z c Y]⟩ : St)) y) ?_ ?_
 refine bo [true,false,true,true] (by kernel_rfl) (fun ρ σ => ?_)
 refine cJ [0,1,2] [49,48,47,4] 5 [(49,.v (.agg (a6 { c with r := (ay c.r n).1 } (.slice v4a ((ay c.r n).1.held.length) v4c)).toArray)),(48,.v (.string ((ay c.r n).2))),(47,.v (.agg (a6 { c with r := (ay c.r n).1 } (.slice v4a ((ay c.r n).1.held.length) v4c)).toArray)),(4,.p 1 0)] <| kA [3] <| du 3 101 [.agg (a6 { c with r := (ay c.r n).1 } (.slice v4a ((ay c.r n).1.held.length) v4c)).toArray] (some 50) rfl (aA fun ww hf => fq ({ c with r := (ay c.r n).1 }) (.slice v4a ((ay c.r n).1.held.length) v4c) ww (ax (hf _ m0)) (by first | omega | (dsimp only; omega))) ?_
 intro _
 refine kA [4,5] ⟨?_,?_⟩
 refine e5 4 rfl (a5 (ap rfl (a5 (a5 a8)))) (aH (e := 105) (K := 13) (bytes := 104) [.agg #[iI c.t.my,iI c.t.port,iI (ac c.s),iI ((ay c.r n).1.next),iI 16,iI (wO ((ay c.r n).1)),iI 0,iI (-1),.bool false,.bool false,iI 0,iI 0,.string (⟨#[]⟩ : ByteArray)]] (rs := ([⟨c.t.my,c.t.port,ac c.s,(ay c.r n).1.next,16,wO ((ay c.r n).1),⟨0,(-1),false,false,0,0⟩,(⟨#[]⟩ : ByteArray)⟩] : List Seg).map aj) rfl rfl) ?_
 intro g11
 refine kA [5] <| dg 5 1 0 (a6 { c with r := (ay c.r n).1 } (.slice v4a ((ay c.r n).1.held.length) v4c)) rfl <| cJ [6,7] [6,5,4] 0 [(6,.v (.slice (some ⟨g11,0,none⟩) 1 1)),(5,.v (.string ((ay c.r n).2))),(4,.p 1 0)] <| kZ ?_
 exact ⟨(g11),kF 4 0 [4,5,6]⟩
 refine dg 5 1 0 (a6 { c with r := (ay c.r n).1 } (.slice v4a ((ay c.r n).1.held.length) v4c)) rfl <| cJ [6] [5,50,4] 2 [(5,.v (.string ((ay c.r n).2))),(50,.v (.agg #[iI c.t.my,iI c.t.port,iI (ac c.s),iI ((ay c.r n).1.next),iI 16,iI (wO ((ay c.r n).1)),iI 0,iI (-1),.bool false,.bool false,iI 0,iI 0,.string (⟨#[]⟩ : ByteArray)])),(4,.p 1 0)] <| kA [4] <| e5 4 rfl (a5 (ap rfl (a5 (a5 a8)))) (aH (e := 105) (K := 13) (bytes := 104) [.agg #[iI c.t.my,iI c.t.port,iI (ac c.s),iI ((ay c.r n).1.next),iI 16,iI (wO ((ay c.r n).1)),iI 0,iI (-1),.bool false,.bool false,iI 0,iI 0,.string (⟨#[]⟩ : ByteArray)]] (rs := ([⟨c.t.my,c.t.port,ac c.s,(ay c.r n).1.next,16,wO ((ay c.r n).1),⟨0,(-1),false,false,0,0⟩,(⟨#[]⟩ : ByteArray)⟩] : List Seg).map aj) rfl rfl) ?_
 intro g13
 refine cJ [7] [6,5,4] 0 [(6,.v (.slice (some ⟨g13,0,none⟩) 1 1)),(5,.v (.string ((ay c.r n).2))),(4,.p 1 0)] <| kZ ?_
 exact ⟨(g13),kF 4 0 [4,5,6]⟩
 intro g11
 refine kR ?_
 have hmod : bh c n = (({ c with r := (ay c.r n).1 }),((ay c.r n).2),([⟨c.t.my,c.t.port,ac c.s,(ay c.r n).1.next,16,wO ((ay c.r n).1),⟨0,(-1),false,false,0,0⟩,(⟨#[]⟩ : ByteArray)⟩] : List Seg)) := by first | rfl | (simp [bh,c8, *]; done) | grind [bh,c8]
 exact ⟨[.agg (a6 { c with r := (ay c.r n).1 } (.slice v4a ((ay c.r n).1.held.length) v4c)).toArray,.string ((ay c.r n).2),.slice (some ⟨g11,0,none⟩) 1 1],by kernel_rfl,fun w' hb hf ha => by rw [hmod]; exact xo2 ((v4a,v4c),(((some ⟨g11,0,none⟩) : Option Addr),1)) rfl rfl (pR (hf _ m1) hB) (pR (hf _ m0) hB) (Apart.sub2 ha (i := 1) (j := 0) rfl rfl (by decide) rfl (fun b h => bO h) (fun b h => bO h)) hb⟩
 refine kK <| kQ <| cm [4,5,6] ⟨[(4,.p 1 0),(5,.v (.string ((ay c.r n).2))),(6,.v (.slice (some ⟨g2,0,none⟩) 0 0))],[⟨41,a6 c (cS Z c Y)⟩,⟨41,a6 { c with r := (ay c.r n).1 } (.slice v4a ((ay c.r n).1.held.length) v4c)⟩,⟨41,a6 { c with r := (ay c.r n).1 } (.slice v4a ((ay c.r n).1.held.length) v4c)⟩,⟨37,ag (ay c.r n).1 (.slice v4a ((ay c.r n).1.held.length) v4c)⟩],[],[a9 w.heap.size 89 2 (.slice v4a ((ay c.r n).1.held.length) v4c) ((ay c.r n).1.held.map pC),a9 w.heap.size 105 13 (.slice (some ⟨g2,0,none⟩) 0 0) (([] : List Seg).map aj),bm w.heap.size (cS v1a c v1c) 2 (c.r.held.map pC),cH Z c Y]⟩ <| kR ?_
 have hmod : bh c n = (({ c with r := (ay c.r n).1 }),((ay c.r n).2),([] : List Seg)) := by first | rfl | (simp [bh,c8, *]; done) | grind [bh,c8]
 exact ⟨[.agg (a6 { c with r := (ay c.r n).1 } (.slice v4a ((ay c.r n).1.held.length) v4c)).toArray,.string ((ay c.r n).2),.slice (some ⟨g2,0,none⟩) 0 0],by kernel_rfl,fun w' hb hf ha => by rw [hmod]; exact xo2 ((v4a,v4c),(((some ⟨g2,0,none⟩) : Option Addr),0)) rfl rfl (pR (hf _ m0) hB) (pR (hf _ m1) hB) (Apart.sub2 ha (i := 0) (j := 1) rfl rfl (by decide) rfl (fun b h => bO h) (fun b h => bO h)) hb⟩
theorem dJ (s : Snd) (window : Int) (mss : Int) (w : World) (hwi : -9223372036854775808 ≤ window ∧ window ≤ 9223372036854775807) : Calls Tryz.prog 113 #[.agg (ai s).toArray, iI window, iI mss] w fun e w' => e = .returned (.tuple #[.agg (cq (nC s window mss).1).toArray, .bool ((nC s window mss).2)]) ∧ Below w.heap.size w w' := by
 refine bZ (args := [.agg (ai s).toArray,iI window,iI mss]) (fn := Tryz.f113) [] Tryz.func113 rfl Tryz.ntmps113 rfl (by simp) ?_
 refine kQ <| cm [1,2,3,6] ⟨[(1,aI window),(2,aI mss),(3,.p 0 0),(6,.p 1 0)],[⟨34,ai s⟩,⟨134,cq (⟨0,(⟨#[]⟩ : ByteArray),false⟩ : Chk)⟩],[],[]⟩ <| kS <| kQ <| dR 1 [1,2,3,6,11] [(11,.v (.agg (ai s).toArray))] 65 [.agg (ai s).toArray] (some 12) rfl (aA fun ww hf => ea s.una s.data s.sent s.fin s.finSent s.done ww ) ?_
 intro _
 refine aW [1,2,3,6,13] [(13,aB (!(aO s)))] <| kC (!(aO s)) (fun h1 => ?_) (fun h1 => ?_)
 have hsn := bS h1
 refine kQ <| kOS 0 [6] [(6,.p 1 0)] (.agg (cq (⟨0,(⟨#[]⟩ : ByteArray),false⟩ : Chk)).toArray) rfl (fun _ _ _ ww hr => bn [] hr.1 rfl (by kernel_rfl) (by kernel_rfl) ww) ?_
 refine aW [6,7] [(7,aB false)] <| kR ?_
 have hmod : nC s window mss = ((⟨0,(⟨#[]⟩ : ByteArray),false⟩),false) := by first | rfl | (simp [nC,bK,aN, *]; done) | (simp [nC,bK,aN, *]; omega) | grind [nC,bK,aN]
 exact ⟨[.agg (cq (⟨0,(⟨#[]⟩ : ByteArray),false⟩ : Chk)).toArray,.bool false],by kernel_rfl,fun w' hb hf => by rw [hmod]; exact ⟨rfl,hb⟩⟩
 have h1b := cE (s := s) (by simpa using h1)
 obtain ⟨h1b0,h1b1,h1b2,h1b3,h1b4,h1b5,h1b6,h1b7,h1b8,h1b9,h1b10⟩ := h1b
 have hsn := aF h1
 obtain ⟨c0,c1,c2,c3,c4⟩ := chunkN_bd (window := window) (mss := mss) hsn
 refine kK <| kS <| bN [] (by kernel_rfl) (fun ρ σ => ?_)
 refine cJ [0,3] [18,15,2,3,6] 6 [(18,.v (.agg (ai s).toArray)),(15,aI window),(2,aI mss),(3,.p 0 0),(6,.p 1 0)] <| kA [1] <| du 1 118 [iI window,iI 1000000] (some 16) rfl (c6 fun ww hf => fT window 1000000 ww ) ?_
 intro _
 refine kA [2] <| du 2 95 [iI 0,iI (min window 1000000)] (some 17) rfl (c6 fun ww hf => e7 0 (min window 1000000) ww ) ?_
 intro _
 refine kA [4] <| du 4 109 [.agg (ai s).toArray] (some 19) rfl (aA fun ww hf => dE s.una s.data s.sent s.fin s.finSent s.done ww ) ?_
 intro _
 refine cJ [5] [20,2,3,6] 2 [(20,aI (K6.wrap ((max 0 (min window 1000000)) - (ab s)))),(2,aI mss),(3,.p 0 0),(6,.p 1 0)] <| gp (t := [(20,aI (K6.wrap ((max 0 (min window 1000000)) - (ab s)))),(2,aI mss),(3,.p 0 0),(6,.p 1 0)]) (t' := [(20,aI ((max 0 (min window 1000000)) - (ab s))),(2,aI mss),(3,.p 0 0),(6,.p 1 0)]) (by rw [show (K6.wrap ((max 0 (min window 1000000)) - (ab s))) = ((max 0 (min window 1000000)) - (ab s)) from al (by omega) (by omega)]) ?_
 refine kA [6] <| du 6 95 [iI 0,iI ((max 0 (min window 1000000)) - (ab s))] (some 21) rfl (c6 fun ww hf => e7 0 ((max 0 (min window 1000000)) - (ab s)) ww ) ?_
 intro _
 refine gp (t := [(21,aI (max 0 ((max 0 (min window 1000000)) - (ab s)))),(20,aI ((max 0 (min window 1000000)) - (ab s))),(2,aI mss),(3,.p 0 0),(6,.p 1 0)]) (t' := [(21,aI (fG s window)),(20,aI ((max 0 (min window 1000000)) - (ab s))),(2,aI mss),(3,.p 0 0),(6,.p 1 0)]) (by rw [show (max 0 ((max 0 (min window 1000000)) - (ab s))) = (fG s window) from wnd_s]) ?_
 refine cJ [7] [8,2,3,6] 0 [(8,aI (fG s window)),(2,aI mss),(3,.p 0 0),(6,.p 1 0)] <| kZ <| kS <| bN [] (by kernel_rfl) (fun ρ σ => ?_)
 refine cJ [0,1,3,4,5,6,7,8] [30,23,22,8,3,6] 4 [(30,aI (K6.wrap ((s.data.size : Int) - s.sent))),(23,aI (fG s window)),(22,aI mss),(8,aI (fG s window)),(3,.p 0 0),(6,.p 1 0)] <| gp (t := [(30,aI (K6.wrap ((s.data.size : Int) - s.sent))),(23,aI (fG s window)),(22,aI mss),(8,aI (fG s window)),(3,.p 0 0),(6,.p 1 0)]) (t' := [(30,aI ((s.data.size : Int) - s.sent)),(23,aI (fG s window)),(22,aI mss),(8,aI (fG s window)),(3,.p 0 0),(6,.p 1 0)]) (by rw [show (K6.wrap ((s.data.size : Int) - s.sent)) = ((s.data.size : Int) - s.sent) from al (by omega) (by omega)]) ?_
 refine kA [2] <| du 2 118 [iI mss,iI (fG s window)] (some 24) rfl (c6 fun ww hf => fT mss (fG s window) ww ) ?_
 intro _
 refine kA [9] <| du 9 118 [iI (min mss (fG s window)),iI ((s.data.size : Int) - s.sent)] (some 31) rfl (c6 fun ww hf => fT (min mss (fG s window)) ((s.data.size : Int) - s.sent) ww ) ?_
 intro _
 refine kA [10] <| du 10 95 [iI 0,iI (min (min mss (fG s window)) ((s.data.size : Int) - s.sent))] (some 32) rfl (c6 fun ww hf => e7 0 (min (min mss (fG s window)) ((s.data.size : Int) - s.sent)) ww ) ?_
 intro _
 refine gp (t := [(32,aI (max 0 (min (min mss (fG s window)) ((s.data.size : Int) - s.sent)))),(31,aI (min (min mss (fG s window)) ((s.data.size : Int) - s.sent))),(24,aI (min mss (fG s window))),(30,aI ((s.data.size : Int) - s.sent)),(23,aI (fG s window)),(22,aI mss),(8,aI (fG s window)),(3,.p 0 0),(6,.p 1 0)]) (t' := [(32,aI (aS s window mss)),(31,aI (min (min mss (fG s window)) ((s.data.size : Int) - s.sent))),(24,aI (min mss (fG s window))),(30,aI ((s.data.size : Int) - s.sent)),(23,aI (fG s window)),(22,aI mss),(8,aI (fG s window)),(3,.p 0 0),(6,.p 1 0)]) (by rw [show (max 0 (min (min mss (fG s window)) ((s.data.size : Int) - s.sent))) = (aS s window mss) from rfl]) ?_
 refine cJ [11] [9,8,3,6] 0 [(9,aI (aS s window mss)),(8,aI (fG s window)),(3,.p 0 0),(6,.p 1 0)] <| kZ <| kS <| ba ⟨[(3,.p 0 0),(6,.p 1 0),(8,aI (fG s window)),(9,aI (aS s window mss)),(10,.p 2 0)],[⟨34,ai s⟩,⟨134,cq (⟨0,(⟨#[]⟩ : ByteArray),false⟩ : Chk)⟩,⟨134,cq (⟨ac s,s.data.extract (s.sent).toNat (s.sent + (aS s window mss)).toNat,false⟩ : Chk)⟩],[],[]⟩ ?_ ?_
 refine bN [] (by kernel_rfl) (fun ρ σ => ?_)
 refine cJ [0,2,3,4,5,6,7,8,9] [42,38,36,33,9,8,3,6] 5 [(42,aI (K6.wrap (s.sent + (aS s window mss)))),(38,aI s.sent),(36,.v (.string s.data)),(33,.v (.agg (ai s).toArray)),(9,aI (aS s window mss)),(8,aI (fG s window)),(3,.p 0 0),(6,.p 1 0)] <| gp (t := [(42,aI (K6.wrap (s.sent + (aS s window mss)))),(38,aI s.sent),(36,.v (.string s.data)),(33,.v (.agg (ai s).toArray)),(9,aI (aS s window mss)),(8,aI (fG s window)),(3,.p 0 0),(6,.p 1 0)]) (t' := [(42,aI (s.sent + (aS s window mss))),(38,aI s.sent),(36,.v (.string s.data)),(33,.v (.agg (ai s).toArray)),(9,aI (aS s window mss)),(8,aI (fG s window)),(3,.p 0 0),(6,.p 1 0)]) (by rw [show (K6.wrap (s.sent + (aS s window mss))) = (s.sent + (aS s window mss)) from al (by omega) (by omega)]) ?_
 refine kX 10 (.string (s.data.extract (s.sent).toNat (s.sent + (aS s window mss)).toNat)) rfl (fun _ _ ww hA => act_slS (s.sent) (s.sent + (aS s window mss)) hA rfl (by kernel_rfl) rfl rfl rfl (by omega) (by omega) (by omega) ww) ?_
 refine kA [1,12] ⟨?_,?_⟩
 refine du 1 121 [.agg (ai s).toArray] (some 34) rfl (aA fun ww hf => sNextOf_c s.una s.data s.sent s.fin s.finSent s.done ww ) ?_
 intro _
 refine kX 11 (.agg (cq (⟨ac s,s.data.extract (s.sent).toNat (s.sent + (aS s window mss)).toNat,false⟩ : Chk)).toArray) rfl (fun _ _ ww hA => bn [(0,iI (ac s)),(1,.string (s.data.extract (s.sent).toNat (s.sent + (aS s window mss)).toNat))] hA rfl (by kernel_rfl) (by kernel_rfl) ww) ?_
 refine kA [12] <| da 12 ⟨134,cq (⟨0,(⟨#[]⟩ : ByteArray),false⟩ : Chk)⟩ _ rfl (by kernel_rfl) (by kernel_rfl) (by kernel_rfl) (by kernel_rfl) rfl ?_
 refine kA [13] <| dg 13 2 0 (cq (⟨ac s,s.data.extract (s.sent).toNat (s.sent + (aS s window mss)).toNat,false⟩ : Chk)) rfl <| kZ ?_
 exact kF 3 0 [3,6,8,9,10]
 refine da 12 ⟨134,cq (⟨0,(⟨#[]⟩ : ByteArray),false⟩ : Chk)⟩ _ rfl (by kernel_rfl) (by kernel_rfl) (by kernel_rfl) (by kernel_rfl) rfl ?_
 refine kA [1] <| du 1 121 [.agg (ai s).toArray] (some 34) rfl (aA fun ww hf => sNextOf_c s.una s.data s.sent s.fin s.finSent s.done ww ) ?_
 intro _
 refine kX 11 (.agg (cq (⟨ac s,s.data.extract (s.sent).toNat (s.sent + (aS s window mss)).toNat,false⟩ : Chk)).toArray) rfl (fun _ _ ww hA => bn [(0,iI (ac s)),(1,.string (s.data.extract (s.sent).toNat (s.sent + (aS s window mss)).toNat))] hA rfl (by kernel_rfl) (by kernel_rfl) ww) ?_
 refine kA [13] <| dg 13 2 0 (cq (⟨ac s,s.data.extract (s.sent).toNat (s.sent + (aS s window mss)).toNat,false⟩ : Chk)) rfl <| kZ ?_
 exact kF 3 0 [3,6,8,9,10]
 refine kQ <| di 3 [3,6,8,9,10,47] [(47,aB s.fin)] <| kP 47 (s.fin) (fun h2 => ?_) (fun h2 => ?_)
 refine di 5 [3,6,8,9,10,52] [(52,aB (!s.finSent))] <| kP 52 (!s.finSent) (fun h3 => ?_) (fun h3 => ?_)
 have h3n := bS h3
 refine di 5 [3,6,8,9,10,57] [(57,aB (!s.done))] <| kP 57 (!s.done) (fun h4 => ?_) (fun h4 => ?_)
 have h4n := bS h4
 refine dt 10 [6,8,9,10,67] [(6,.p 1 0),(8,aI (fG s window)),(9,aI (aS s window mss)),(10,.p 2 0),(67,aB ((K6.wrap (s.sent + (aS s window mss))) == (s.data.size : Int)))] <| fU (t' := [(6,.p 1 0),(8,aI (fG s window)),(9,aI (aS s window mss)),(10,.p 2 0),(67,aB ((s.sent + (aS s window mss)) == (s.data.size : Int)))]) (by rw [show (K6.wrap (s.sent + (aS s window mss))) = (s.sent + (aS s window mss)) from al (by omega) (by omega)]) ?_
 refine kP 67 ((s.sent + (aS s window mss)) == (s.data.size : Int)) (fun h5 => ?_) (fun h5 => ?_)
 have h5p := cI h5
 refine bC [6,9,10] [] 2 ⟨134,cq (⟨ac s,s.data.extract (s.sent).toNat (s.sent + (aS s window mss)).toNat,decide ((fG s window) > (aS s window mss))⟩ : Chk)⟩ <| kS <| kQ <| di 3 [6,10,75] [(75,aB ((aS s window mss) == 0))] ?_
 refine kP 75 ((aS s window mss) == 0) (fun h6 => ?_) (fun h6 => ?_)
 have h6p := cI h6
 refine aW [6,10,79] [(79,aB (!(decide ((fG s window) > (aS s window mss)))))] <| kC (!(decide ((fG s window) > (aS s window mss)))) (fun h7 => ?_) (fun h7 => ?_)
 have h7n := bS h7
 refine kQ <| kOS 0 [6] [(6,.p 1 0)] (.agg (cq (⟨0,(⟨#[]⟩ : ByteArray),false⟩ : Chk)).toArray) rfl (fun _ _ _ ww hr => bn [] hr.1 rfl (by kernel_rfl) (by kernel_rfl) ww) ?_
 refine aW [6,7] [(7,aB false)] <| kR ?_
 have hmod : nC s window mss = ((⟨0,(⟨#[]⟩ : ByteArray),false⟩),false) := by first | rfl | (simp [nC,bK,aN, *]; done) | (simp [nC,bK,aN, *]; omega) | grind [nC,bK,aN]
 exact ⟨[.agg (cq (⟨0,(⟨#[]⟩ : ByteArray),false⟩ : Chk)).toArray,.bool false],by kernel_rfl,fun w' hb hf => by rw [hmod]; exact ⟨rfl,hb⟩⟩
 have h7n := aF h7
 refine kK <| kQ <| bC [6,7] [(7,aB true)] 1 ⟨134,cq (⟨ac s,s.data.extract (s.sent).toNat (s.sent + (aS s window mss)).toNat,decide ((fG s window) > (aS s window mss))⟩ : Chk)⟩ <| kR ?_
 have hmod : nC s window mss = ((⟨ac s,s.data.extract (s.sent).toNat (s.sent + (aS s window mss)).toNat,decide ((fG s window) > (aS s window mss))⟩),true) := by first | rfl | (simp [nC,bK,aN, *]; done) | (simp [nC,bK,aN, *]; omega) | grind [nC,bK,aN]
 exact ⟨[.agg (cq (⟨ac s,s.data.extract (s.sent).toNat (s.sent + (aS s window mss)).toNat,decide ((fG s window) > (aS s window mss))⟩ : Chk)).toArray,.bool true],by kernel_rfl,fun w' hb hf => by rw [hmod]; exact ⟨rfl,hb⟩⟩
 have h6p := cB h6
 refine aW [6,10,79] [(79,aB false)] <| kN <| kK <| kQ <| bC [6,7] [(7,aB true)] 1 ⟨134,cq (⟨ac s,s.data.extract (s.sent).toNat (s.sent + (aS s window mss)).toNat,decide ((fG s window) > (aS s window mss))⟩ : Chk)⟩ ?_
 refine kR ?_
 have hmod : nC s window mss = ((⟨ac s,s.data.extract (s.sent).toNat (s.sent + (aS s window mss)).toNat,decide ((fG s window) > (aS s window mss))⟩),true) := by first | rfl | (simp [nC,bK,aN, *]; done) | (simp [nC,bK,aN, *]; omega) | grind [nC,bK,aN]
 exact ⟨[.agg (cq (⟨ac s,s.data.extract (s.sent).toNat (s.sent + (aS s window mss)).toNat,decide ((fG s window) > (aS s window mss))⟩ : Chk)).toArray,.bool true],by kernel_rfl,fun w' hb hf => by rw [hmod]; exact ⟨rfl,hb⟩⟩
 have h5p := cB h5
 refine aW [6,9,10] [] <| kS <| kQ <| di 3 [6,10,75] [(75,aB ((aS s window mss) == 0))] ?_
 refine kP 75 ((aS s window mss) == 0) (fun h8 => ?_) (fun h8 => ?_)
 have h8p := cI h8
 refine aW [6,10,79] [(79,aB true)] <| kT <| kQ <| kOS 0 [6] [(6,.p 1 0)] (.agg (cq (⟨0,(⟨#[]⟩ : ByteArray),false⟩ : Chk)).toArray) rfl (fun _ _ _ ww hr => bn [] hr.1 rfl (by kernel_rfl) (by kernel_rfl) ww) ?_
 refine aW [6,7] [(7,aB false)] <| kR ?_
 have hmod : nC s window mss = ((⟨0,(⟨#[]⟩ : ByteArray),false⟩),false) := by first | rfl | (simp [nC,bK,aN, *]; done) | (simp [nC,bK,aN, *]; omega) | grind [nC,bK,aN]
 exact ⟨[.agg (cq (⟨0,(⟨#[]⟩ : ByteArray),false⟩ : Chk)).toArray,.bool false],by kernel_rfl,fun w' hb hf => by rw [hmod]; exact ⟨rfl,hb⟩⟩
 have h8p := cB h8
 refine aW [6,10,79] [(79,aB false)] <| kN <| kK <| kQ <| bC [6,7] [(7,aB true)] 1 ⟨134,cq (⟨ac s,s.data.extract (s.sent).toNat (s.sent + (aS s window mss)).toNat,false⟩ : Chk)⟩ ?_
 refine kR ?_
 have hmod : nC s window mss = ((⟨ac s,s.data.extract (s.sent).toNat (s.sent + (aS s window mss)).toNat,false⟩),true) := by first | rfl | (simp [nC,bK,aN, *]; done) | (simp [nC,bK,aN, *]; omega) | grind [nC,bK,aN]
 exact ⟨[.agg (cq (⟨ac s,s.data.extract (s.sent).toNat (s.sent + (aS s window mss)).toNat,false⟩ : Chk)).toArray,.bool true],by kernel_rfl,fun w' hb hf => by rw [hmod]; exact ⟨rfl,hb⟩⟩
 have h4n := aF h4
 refine aW [6,9,10] [] <| kS <| kQ <| di 3 [6,10,75] [(75,aB ((aS s window mss) == 0))] ?_
 refine kP 75 ((aS s window mss) == 0) (fun h9 => ?_) (fun h9 => ?_)
 have h9p := cI h9
 refine aW [6,10,79] [(79,aB true)] <| kT <| kQ <| kOS 0 [6] [(6,.p 1 0)] (.agg (cq (⟨0,(⟨#[]⟩ : ByteArray),false⟩ : Chk)).toArray) rfl (fun _ _ _ ww hr => bn [] hr.1 rfl (by kernel_rfl) (by kernel_rfl) ww) ?_
 refine aW [6,7] [(7,aB false)] <| kR ?_
 have hmod : nC s window mss = ((⟨0,(⟨#[]⟩ : ByteArray),false⟩),false) := by first | rfl | (simp [nC,bK,aN, *]; done) | (simp [nC,bK,aN, *]; omega) | grind [nC,bK,aN]
 exact ⟨[.agg (cq (⟨0,(⟨#[]⟩ : ByteArray),false⟩ : Chk)).toArray,.bool false],by kernel_rfl,fun w' hb hf => by rw [hmod]; exact ⟨rfl,hb⟩⟩
 have h9p := cB h9
 refine aW [6,10,79] [(79,aB false)] <| kN <| kK <| kQ <| bC [6,7] [(7,aB true)] 1 ⟨134,cq (⟨ac s,s.data.extract (s.sent).toNat (s.sent + (aS s window mss)).toNat,false⟩ : Chk)⟩ ?_
 refine kR ?_
 have hmod : nC s window mss = ((⟨ac s,s.data.extract (s.sent).toNat (s.sent + (aS s window mss)).toNat,false⟩),true) := by first | rfl | (simp [nC,bK,aN, *]; done) | (simp [nC,bK,aN, *]; omega) | grind [nC,bK,aN]
 exact ⟨[.agg (cq (⟨ac s,s.data.extract (s.sent).toNat (s.sent + (aS s window mss)).toNat,false⟩ : Chk)).toArray,.bool true],by kernel_rfl,fun w' hb hf => by rw [hmod]; exact ⟨rfl,hb⟩⟩
 have h3n := aF h3
 refine aW [6,9,10] [] <| kS <| kQ <| di 3 [6,10,75] [(75,aB ((aS s window mss) == 0))] ?_
 refine kP 75 ((aS s window mss) == 0) (fun h10 => ?_) (fun h10 => ?_)
 have h10p := cI h10
 refine aW [6,10,79] [(79,aB true)] <| kT <| kQ <| kOS 0 [6] [(6,.p 1 0)] (.agg (cq (⟨0,(⟨#[]⟩ : ByteArray),false⟩ : Chk)).toArray) rfl (fun _ _ _ ww hr => bn [] hr.1 rfl (by kernel_rfl) (by kernel_rfl) ww) ?_
 refine aW [6,7] [(7,aB false)] <| kR ?_
 have hmod : nC s window mss = ((⟨0,(⟨#[]⟩ : ByteArray),false⟩),false) := by first | rfl | (simp [nC,bK,aN, *]; done) | (simp [nC,bK,aN, *]; omega) | grind [nC,bK,aN]
 exact ⟨[.agg (cq (⟨0,(⟨#[]⟩ : ByteArray),false⟩ : Chk)).toArray,.bool false],by kernel_rfl,fun w' hb hf => by rw [hmod]; exact ⟨rfl,hb⟩⟩
 have h10p := cB h10
 refine aW [6,10,79] [(79,aB false)] <| kN <| kK <| kQ <| bC [6,7] [(7,aB true)] 1 ⟨134,cq (⟨ac s,s.data.extract (s.sent).toNat (s.sent + (aS s window mss)).toNat,false⟩ : Chk)⟩ ?_
 refine kR ?_
 have hmod : nC s window mss = ((⟨ac s,s.data.extract (s.sent).toNat (s.sent + (aS s window mss)).toNat,false⟩),true) := by first | rfl | (simp [nC,bK,aN, *]; done) | (simp [nC,bK,aN, *]; omega) | grind [nC,bK,aN]
 exact ⟨[.agg (cq (⟨ac s,s.data.extract (s.sent).toNat (s.sent + (aS s window mss)).toNat,false⟩ : Chk)).toArray,.bool true],by kernel_rfl,fun w' hb hf => by rw [hmod]; exact ⟨rfl,hb⟩⟩
 refine aW [6,9,10] [] <| kS <| kQ <| di 3 [6,10,75] [(75,aB ((aS s window mss) == 0))] ?_
 refine kP 75 ((aS s window mss) == 0) (fun h11 => ?_) (fun h11 => ?_)
 have h11p := cI h11
 refine aW [6,10,79] [(79,aB true)] <| kT <| kQ <| kOS 0 [6] [(6,.p 1 0)] (.agg (cq (⟨0,(⟨#[]⟩ : ByteArray),false⟩ : Chk)).toArray) rfl (fun _ _ _ ww hr => bn [] hr.1 rfl (by kernel_rfl) (by kernel_rfl) ww) ?_
 refine aW [6,7] [(7,aB false)] <| kR ?_
 have hmod : nC s window mss = ((⟨0,(⟨#[]⟩ : ByteArray),false⟩),false) := by first | rfl | (simp [nC,bK,aN, *]; done) | (simp [nC,bK,aN, *]; omega) | grind [nC,bK,aN]
 exact ⟨[.agg (cq (⟨0,(⟨#[]⟩ : ByteArray),false⟩ : Chk)).toArray,.bool false],by kernel_rfl,fun w' hb hf => by rw [hmod]; exact ⟨rfl,hb⟩⟩
 have h11p := cB h11
 refine aW [6,10,79] [(79,aB false)] <| kN <| kK <| kQ <| bC [6,7] [(7,aB true)] 1 ⟨134,cq (⟨ac s,s.data.extract (s.sent).toNat (s.sent + (aS s window mss)).toNat,false⟩ : Chk)⟩ ?_
 refine kR ?_
 have hmod : nC s window mss = ((⟨ac s,s.data.extract (s.sent).toNat (s.sent + (aS s window mss)).toNat,false⟩),true) := by first | rfl | (simp [nC,bK,aN, *]; done) | (simp [nC,bK,aN, *]; omega) | grind [nC,bK,aN]
 exact ⟨[.agg (cq (⟨ac s,s.data.extract (s.sent).toNat (s.sent + (aS s window mss)).toNat,false⟩ : Chk)).toArray,.bool true],by kernel_rfl,fun w' hb hf => by rw [hmod]; exact ⟨rfl,hb⟩⟩
end Go.Proofs.YtccijpdjfelbmaaGreat
