/- Contracts that this law needs, part 1. -/
import Derived.Test.YtfidgfddgmppdaaYW
import Derived.Test.YtfidgfddgmppdaaA5
import Derived.Test.YtfidgfddgmppdaaG1
import Derived.Test.YtfidgfddgmppdaaYD
import Derived.Test.YtfidgfddgmppdaaG3
import Derived.Test.YtfidgfddgmppdaaA2
import Derived.Test.YtfidgfddgmppdaaG2
namespace Go.Proofs.Ytfidgfddgmppdaa
open Go.RowKit
set_option linter.unusedVariables false
set_option linter.unusedSimpArgs false
set_option maxRecDepth 100000
set_option maxHeartbeats 2000000
abbrev aI (x : Int) : AV := .v (.int .i64 x)
abbrev aB (x : Bool) : AV := .v (.bool x)
abbrev aP (x : Nat) : AV := .v (.pointer (some ⟨x, 0, none⟩))
abbrev iI (x : Int) : Value := .int .i64 x
abbrev cS (a : Option Addr) (c : Con) (n : Nat) : Value := .slice a c.r.held.length n
abbrev K6 : IntKind := .i64


@[simp] theorem inB18_1 : bx 1 1 8 = true := rfl
@[simp] theorem inB18_2 : bx 2 1 8 = true := rfl
@[simp] theorem inB18_3 : bx 3 1 8 = true := rfl
@[simp] theorem inB18_4 : bx 4 1 8 = true := rfl
@[simp] theorem inB18_5 : bx 5 1 8 = true := rfl
@[simp] theorem inB18_6 : bx 6 1 8 = true := rfl
@[simp] theorem inB18_7 : bx 7 1 8 = true := rfl
@[simp] theorem inB18_8 : bx 8 1 8 = true := rfl
def tabL (x : Tab) (x_connsV : Value) (x_waitingV : Value) : List Value := [x_connsV, x_waitingV]
def b8 (x : Mac) (x_rowsV : Value) : List Value := [.bool x.use, .int .u64 x.k, .int .u64 x.l, x_rowsV]
def ce (x : Kys) (x_now_rowsV : Value) (x_before_rowsV : Value) : List Value := [iI x.epoch, .bool x.now.use, .int .u64 x.now.k, .int .u64 x.now.l, x_now_rowsV, .bool x.before.use, .int .u64 x.before.k, .int .u64 x.before.l, x_before_rowsV, .bool x.two]
def bT (x : Dor) (x_keys_now_rowsV : Value) (x_keys_before_rowsV : Value) (x_halvesV : Value) (x_table_connsV : Value) (x_table_waitingV : Value) : List Value := [iI x.port, iI x.clock, iI x.keys.epoch, .bool x.keys.now.use, .int .u64 x.keys.now.k, .int .u64 x.keys.now.l, x_keys_now_rowsV, .bool x.keys.before.use, .int .u64 x.keys.before.k, .int .u64 x.keys.before.l, x_keys_before_rowsV, .bool x.keys.two, iI x.lim.halves, iI x.lim.waiting, iI x.lim.conns, iI x.lim.chal, x_halvesV, x_table_connsV, x_table_waitingV, iI x.chal]
theorem yszConnS_c (a : List CV) (aV : Value) (left : Int) (w : World) (hl_aV : Sl w aV 25 (a.map aQ)) (hh_aV : ∀ x ∈ a, Sl w x.2 2 (x.1.r.held.map pC)) (h0 : 0 ≤ left) (h1 : left ≤ 1048576) (hm : ∀ x ∈ a, conMax x.1) : Calls Try.prog 57 #[aV, iI left] w fun e w' => ∃ r : Int, e = .returned (iI r) ∧ szP left r a ∧ Below w.heap.size w w' := by
 obtain ⟨Aa,Ca,hva⟩ := hl_aV.form
 rw [List.length_map] at hva; subst hva
 have hna := hl_aV.len; rw [List.length_map] at hna
 have hqa := Sl.capLe hl_aV
 refine aq (args := [.slice Aa a.length Ca,iI left]) (fn := Try.f57) [ag (.slice Aa a.length Ca) 25 (a.map aQ),bJ a] Try.func57 rfl Try.ntmps57 rfl (by simp only [List.mem_cons,List.not_mem_nil,or_false,forall_eq_or_imp,forall_eq]; exact ⟨⟨rfl,hl_aV⟩,⟨rfl,hh_aV⟩⟩) ?_
 refine kQ <| bH [0,1] ⟨[(0,.v (.slice Aa a.length Ca)),(1,aI left)],[],[],[ag (.slice Aa a.length Ca) 25 (a.map aQ),bJ a]⟩ <| kQ <| kRD 5 [0,1] [(1,aI (K6.wrap (left - ((a.length : Nat) : Int))))] ?_
 refine bX [0,1] [(1,aI (K6.wrap (left - ((a.length : Nat) : Int))))] [(1,aI (left - ((a.length : Nat) : Int)))] (by rw [show (K6.wrap (left - ((a.length : Nat) : Int))) = (left - ((a.length : Nat) : Int)) from aY (by omega) (by omega)]) (by kernel_rfl) ?_
 refine aH [0,1] [] <| kS <| kQ <| aH [0,1,11] [(11,aB (decide ((left - ((a.length : Nat) : Int)) < 0)))] ?_
 refine kC (decide ((left - ((a.length : Nat) : Int)) < 0)) (fun h1 => ?_) (fun h1 => ?_)
 have h1p := of_decide_eq_true h1
 refine kQ <| bZ [4] [(4,aI (-1))] <| kR ?_
 exact ⟨[iI (-1)],by kernel_rfl,fun w' hb hf => ⟨_,rfl,.inl rfl,hb⟩⟩
 have h1p := of_decide_eq_false h1
 refine kK <| kS <| kQ <| aH [0,1,5] [(5,aI 0)] ?_
 refine aZ <| bk (α := {x : Nat × Int // (fun (i : Nat) (z : Int) => i ≤ a.length ∧ 0 ≤ z ∧ z ≤ left - (a.length : Int) ∧ ∀ (j : Nat) (x : CV),j < i → a[j]? = some x → ConFit left x.1) x.1 x.2}) (fun x => (fun (i : Nat) (z : Int) => (⟨[(0,.v (.slice Aa a.length Ca)),(1,aI z),(5,aI (i : Int))],[],[],[ag (.slice Aa a.length Ca) 25 (a.map aQ),bJ a]⟩ : St)) x.1.1 x.1.2) (fun x => (fun (i : Nat) (z : Int) => a.length - i) x.1.1 x.1.2) ⟨(0,left - ((a.length : Nat) : Int)),⟨Nat.zero_le _,(by first | omega | (simp at *; omega)),(by omega),(fun j x hj => by omega)⟩⟩ (kF 0 0 [0,1,5]) ?_
 rintro ⟨⟨i,z⟩,hi,hz0,hz1,HK⟩
 try dsimp only
 try dsimp only at hi hz0 hz1 HK
 refine kS <| kQ <| aH [0,1,5,15] [(15,aB (decide ((i : Int) < ((a.length : Nat) : Int))))] <| kC (decide ((i : Int) < ((a.length : Nat) : Int))) (fun h2 => ?_) (fun h2 => ?_)
 have h2p := of_decide_eq_true h2
 have hlt : i < a.length := by simpa using h2
 obtain ⟨x0,hx⟩ : ∃ x,a[i]? = some x := ⟨_,List.getElem?_eq_getElem hlt⟩
 obtain ⟨x,xa,xc,rfl⟩ := cv_form (hh_aV x0 (List.mem_of_getElem? hx))
 have hmx : conMax x := hm _ (List.mem_of_getElem? hx)
 refine kK <| kS <| aZ <| kQ <| cF (kd := .i64) (T := 31) (e := 139) (K := 25) 2 [0,1,5,18,19] [(18,.v (.slice Aa a.length Ca)),(19,aI (i : Int))] i [iI x.t.ip,iI x.t.port,iI x.t.my,iI x.state,iI x.s.una,.string x.s.data,iI x.s.sent,.bool x.s.fin,.bool x.s.finSent,.bool x.s.done,iI x.r.next,.string x.r.data,.slice xa x.r.held.length xc,iI x.r.fin,.bool x.r.done,iI x.window,iI x.most,iI x.o.mss,iI x.o.scale,.bool x.o.sack,.bool x.o.stamp,iI x.o.val,iI x.o.echo,iI x.timer,iI x.tries] (ag (.slice Aa a.length Ca) 25 (a.map aQ)) (by kernel_rfl) rfl (by kernel_rfl) rfl rfl (by kernel_rfl) (by kernel_rfl) (by kernel_rfl) (by kernel_rfl) hlt (by simp) (fun w h => h) (fun b h => h) (by simp only [List.getElem?_map,hx]; rfl) ?_
 refine ci 2 [0,1,5,21,22] [(21,.v (.agg (conL x (cS xa x xc)).toArray)),(22,aI z)] 98 [.agg (conL x (cS xa x xc)).toArray,iI z] (some 23) rfl (xc_e (α := Int) (F := fun y => iI y) (p := fun r => r = -1 ∨ (0 ≤ r ∧ r ≤ z ∧ ConFit z x)) fun ww hf => szConn_c x.t.ip x.t.port x.t.my x.state x.s.una x.s.data x.s.sent x.s.fin x.s.finSent x.s.done x.r.next x.r.data x.r.held (cS xa x xc) x.r.fin x.r.done x.window x.most x.o.mss x.o.scale x.o.sack x.o.stamp x.o.val x.o.echo x.timer x.tries z ww ((hf _ m1) (x,.slice xa x.r.held.length xc) (List.mem_of_getElem? hx)) hmx.2.2 (by omega) (by omega) hmx.2.1 hmx.1) ?_
 rintro ⟨r3,hr3⟩
 refine aH [0,1,5] [(1,aI r3)] <| kQ <| aH [0,1,5,25] [(25,aB (decide (r3 < 0)))] <| kC (decide (r3 < 0)) (fun h4 => ?_) (fun h4 => ?_)
 have h4p := of_decide_eq_true h4
 refine kQ <| bZ [4] [(4,aI (-1))] <| kR ?_
 exact ⟨[iI (-1)],by kernel_rfl,fun w' hb hf => ⟨_,rfl,.inl rfl,hb⟩⟩
 have h4p := of_decide_eq_false h4
 rcases hr3 with hr3 | ⟨hr3a,hr3b,hr3c⟩
 · omega
 refine kK <| kG <| kRS 3 [0,1,5] [(0,.v (.slice Aa a.length Ca)),(1,aI r3),(5,aI (K6.wrap ((i : Int) + 1)))] <| xl_eqS (t' := [(0,.v (.slice Aa a.length Ca)),(1,aI r3),(5,aI ((i : Int) + 1))]) (by rw [show (K6.wrap ((i : Int) + 1)) = ((i : Int) + 1) from aY (by omega) (by omega)]) ?_
 refine aH [0,1,5] [] ?_
 exact ⟨⟨(i + 1,r3),⟨hlt,by omega,by omega,sz_step hx (hr3c.mono (by omega)) HK⟩⟩,kF 0 0 [0,1,5],by show (fun (i : Nat) (z : Int) => a.length - i) (i + 1) r3 < a.length - i; (dsimp only; omega)⟩
 have h2p := of_decide_eq_false h2
 have hge : i = a.length := by simp at h2; omega
 refine bF <| kQ <| bZ [4] [(4,aI z)] <| kR ?_
 exact ⟨[iI z],by kernel_rfl,fun w' hb hf => ⟨_,rfl,.inr ⟨by omega,by omega,by omega,sz_all hge HK⟩,hb⟩⟩
theorem yszTable_c (c : List CV) (wt : List Tup) (tc : Value) (tw : Value) (left : Int) (w : World) (hl_tc : Sl w tc 25 (c.map aQ)) (hh_tc : ∀ x ∈ c, Sl w x.2 2 (x.1.r.held.map pC)) (hl_tw : Sl w tw 3 (wt.map ay)) (h0 : 0 ≤ left) (h1 : left ≤ 1048576) (hm : ∀ x ∈ c, conMax x.1) : Calls Try.prog 20 #[.agg #[tc, tw], iI left] w fun e w' => ∃ r : Int, e = .returned (iI r) ∧ (r = -1 ∨ (0 ≤ r ∧ r ≤ left ∧ (c.length : Int) ≤ left ∧ (∀ x ∈ c, ConFit left x.1) ∧ (wt.length : Int) ≤ left)) ∧ Below w.heap.size w w' := by
 obtain ⟨ra_tc,rc_tc,hv_tc⟩ := hl_tc.form
 rw [List.length_map] at hv_tc; subst hv_tc
 have hn_tc := hl_tc.len; rw [List.length_map] at hn_tc
 have hq_tc := Sl.capLe hl_tc
 obtain ⟨ra_tw,rc_tw,hv_tw⟩ := hl_tw.form
 rw [List.length_map] at hv_tw; subst hv_tw
 have hn_tw := hl_tw.len; rw [List.length_map] at hn_tw
 have hq_tw := Sl.capLe hl_tw
 refine aq (args := [.agg #[.slice ra_tc c.length rc_tc,.slice ra_tw wt.length rc_tw],iI left]) (fn := Try.f20) [ag (.slice ra_tc c.length rc_tc) 25 (c.map aQ),bJ c,ag (.slice ra_tw wt.length rc_tw) 3 (wt.map ay)] Try.func20 rfl Try.ntmps20 rfl (by simp only [List.mem_cons,List.not_mem_nil,or_false,forall_eq_or_imp,forall_eq]; exact ⟨⟨rfl,hl_tc⟩,⟨rfl,hh_tc⟩,⟨rfl,hl_tw⟩⟩) ?_
 refine kQ <| bH [1,2] ⟨[(1,aI left),(2,.p 0 0)],[⟨34,[.slice ra_tc c.length rc_tc,.slice ra_tw wt.length rc_tw]⟩],[],[ag (.slice ra_tc c.length rc_tc) 25 (c.map aQ),bJ c,ag (.slice ra_tw wt.length rc_tw) 3 (wt.map ay)]⟩ <| kQ <| ci 3 [1,2,6,7] [(6,.v (.slice ra_tc c.length rc_tc)),(7,aI left)] 57 [.slice ra_tc c.length rc_tc,iI left] (some 8) rfl (xc_e (α := Int) (F := fun y => iI y) (p := fun r => szP left r c) fun ww hf => yszConnS_c c (.slice ra_tc c.length rc_tc) left ww (hf _ m0) (hf _ m1) (by omega) (by omega) hm) ?_
 rintro ⟨r1,hr1⟩
 refine aH [1,2] [(1,aI r1)] <| kS <| kQ <| aH [1,2,10] [(10,aB (decide (r1 < 0)))] ?_
 refine kC (decide (r1 < 0)) (fun h2 => ?_) (fun h2 => ?_)
 have h2p := of_decide_eq_true h2
 refine kQ <| bZ [4] [(4,aI (-1))] <| kR ?_
 exact ⟨[iI (-1)],by kernel_rfl,fun w' hb hf => ⟨_,rfl,.inl rfl,hb⟩⟩
 have h2p := of_decide_eq_false h2
 rcases hr1 with hr1 | ⟨hr1a,hr1b,hr1n,hr1c⟩
 · omega
 refine kK <| kQ <| ci 3 [1,12,13] [(12,.v (.slice ra_tw wt.length rc_tw)),(13,aI r1)] 58 [.slice ra_tw wt.length rc_tw,iI r1] (some 14) rfl (xc_s fun ww hf => szTupleS_c (.slice ra_tw wt.length rc_tw) wt r1 ww (hf _ m2) (by omega) (by omega)) ?_
 intro _
 refine bZ [1] [(1,aI (if (r1 : Int) < wt.length then -1 else (r1 : Int) - wt.length))] <| kS <| kQ <| aH [1,16] [(16,aB (decide ((if (r1 : Int) < wt.length then -1 else (r1 : Int) - wt.length) < 0)))] ?_
 refine kC (decide ((if (r1 : Int) < wt.length then -1 else (r1 : Int) - wt.length) < 0)) (fun h3 => ?_) (fun h3 => ?_)
 have h3p := of_decide_eq_true h3
 refine kQ <| bZ [4] [(4,aI (-1))] <| kR ?_
 exact ⟨[iI (-1)],by kernel_rfl,fun w' hb hf => ⟨_,rfl,.inl rfl,hb⟩⟩
 have h3p := of_decide_eq_false h3
 have hsz_wt : wt.length ≤ 1048576 := by by_cases hh : (r1 : Int) < (wt.length : Int) <;> simp [hh] at h3; omega
 refine kK <| kQ <| bZ [4] [(4,aI (if (r1 : Int) < wt.length then -1 else (r1 : Int) - wt.length))] <| kR ?_
 exact ⟨[iI (if (r1 : Int) < wt.length then -1 else (r1 : Int) - wt.length)],by kernel_rfl,fun w' hb hf => ⟨_,rfl,.inr ⟨by split <;> omega,by split <;> omega,by omega,by assumption,by omega⟩,hb⟩⟩
theorem ytoConnS_c (a : List CV) (aV : Value) (w : World) (hl_aV : Sl w aV 25 (a.map aQ)) (hh_aV : ∀ x ∈ a, Sl w x.2 2 (x.1.r.held.map pC)) (hfit : ∀ x ∈ a, cX x.1) (hln : a.length ≤ 1048576) (B : Nat) (hB : B ≤ w.heap.size) : Calls Try.prog 63 #[aV] w fun e w' => XRs w w' e (α := {cs : List CV // pl cs = pl a} × (Option Addr × Nat)) (fun y => .slice y.2.1 y.1.1.length y.2.2) (fun y => [bU B 108 25 (.slice y.2.1 y.1.1.length y.2.2) (y.1.1.map aQ), bp B y.1.1]) := by
 obtain ⟨Aa,Ca,hva⟩ := hl_aV.form
 rw [List.length_map] at hva; subst hva
 have hna := hl_aV.len; rw [List.length_map] at hna
 have hqa := Sl.capLe hl_aV
 refine x_callsA (args := [.slice Aa a.length Ca]) (fn := Try.f63) [ag (.slice Aa a.length Ca) 25 (a.map aQ),bJ a] Try.func63 rfl Try.ntmps63 rfl (by simp only [List.mem_cons,List.not_mem_nil,or_false,forall_eq_or_imp,forall_eq]; exact ⟨⟨rfl,hl_aV⟩,⟨rfl,hh_aV⟩⟩) ?_
 refine kQ <| bH [0] ⟨[(0,.v (.slice Aa a.length Ca))],[],[],[ag (.slice Aa a.length Ca) 25 (a.map aQ),bJ a]⟩ <| kQ <| kHD 2 [0,6] [(6,aI ((a.length : Nat) : Int))] rfl (hv_make (kl := .i64) (kc := .i64) (e := 108) (K := 25) (bytes := 208) (m := a.length) (z := .agg (conZ).toArray) (rs := (List.replicate a.length ((⟨⟨0,0,0⟩,0,⟨0,(⟨#[]⟩ : ByteArray),0,false,false,false⟩,⟨0,(⟨#[]⟩ : ByteArray),[],0,false⟩,0,0,⟨0,0,false,false,0,0⟩,0,0⟩,.slice none 0 0) : CV)).map aQ) rfl (by kernel_rfl) (by kernel_rfl) (by kernel_rfl) (by kernel_rfl) (by (try simp only [List.length_map,List.length_append,List.length_cons,List.length_nil,List.length_take,List.length_drop,maxLen]); omega) (by (try simp only [List.length_map,List.length_append,List.length_cons,List.length_nil,List.length_take,List.length_drop,maxLen]); omega) (by rw [List.map_replicate]; rfl)) ?_
 intro g1
 refine aH [0,3] [(3,.v (.slice (some ⟨g1,0,none⟩) a.length a.length))] <| kS <| kQ <| aH [0,3,4] [(4,aI 0)] ?_
 refine aZ <| xw_free (bp w.heap.size (List.replicate a.length ((⟨⟨0,0,0⟩,0,⟨0,(⟨#[]⟩ : ByteArray),0,false,false,false⟩,⟨0,(⟨#[]⟩ : ByteArray),[],0,false⟩,0,0,⟨0,0,false,false,0,0⟩,0,0⟩,.slice none 0 0) : CV))) (fun ww _ => hownF_rep ww _ _) (fun b => hownF_repb) <| bk (α := {x : Nat × List CV // (fun (i : Nat) (l : List CV) => i ≤ a.length ∧ l.length = a.length ∧ (pl l).take i = (pl a).take i) x.1 x.2}) (fun x => (fun (i : Nat) (l : List CV) => (⟨[(0,.v (.slice Aa a.length Ca)),(3,.v (.slice (some ⟨g1,0,none⟩) a.length a.length)),(4,aI (i : Int))],[],[],[bp w.heap.size l,bU w.heap.size 108 25 (.slice (some ⟨g1,0,none⟩) a.length a.length) (l.map aQ),ag (.slice Aa a.length Ca) 25 (a.map aQ),bJ a]⟩ : St)) x.1.1 x.1.2) (fun x => (fun (i : Nat) (l : List CV) => a.length - i) x.1.1 x.1.2) ⟨(0,(List.replicate a.length ((⟨⟨0,0,0⟩,0,⟨0,(⟨#[]⟩ : ByteArray),0,false,false,false⟩,⟨0,(⟨#[]⟩ : ByteArray),[],0,false⟩,0,0,⟨0,0,false,false,0,0⟩,0,0⟩,.slice none 0 0) : CV))),⟨Nat.zero_le _,List.length_replicate,rfl⟩⟩ (kPk [0,1,2,3] <| kF 0 0 [0,3,4]) ?_
 rintro ⟨⟨i,l⟩,hi,hll,HK⟩
 try dsimp only
 try dsimp only at hi hll HK
 refine kS <| kQ <| aH [0,3,4,11] [(11,aB (decide ((i : Int) < ((a.length : Nat) : Int))))] <| kC (decide ((i : Int) < ((a.length : Nat) : Int))) (fun h2 => ?_) (fun h2 => ?_)
 have h2p := of_decide_eq_true h2
 have hlt : i < a.length := by simpa using h2
 obtain ⟨x0,hx⟩ : ∃ x,a[i]? = some x := ⟨_,List.getElem?_eq_getElem hlt⟩
 obtain ⟨x,xa,xc,rfl⟩ := cv_form (hh_aV x0 (List.mem_of_getElem? hx))
 have hft_x : cX x := hfit _ (List.mem_of_getElem? hx)
 obtain ⟨hfs_x,hfr_x,hfh_x,hfp_x⟩ := hft_x
 obtain ⟨z,hz⟩ : ∃ z,l[i]? = some z := ⟨_,List.getElem?_eq_getElem (by omega)⟩
 refine kK <| kS <| aZ <| kG <| cF (kd := .i64) (T := 31) (e := 139) (K := 25) 4 [0,3,4,14,15,16,17] [(14,.v (.slice (some ⟨g1,0,none⟩) a.length a.length)),(15,aI (i : Int)),(16,.v (.slice Aa a.length Ca)),(17,aI (i : Int))] i [iI x.t.ip,iI x.t.port,iI x.t.my,iI x.state,iI x.s.una,.string x.s.data,iI x.s.sent,.bool x.s.fin,.bool x.s.finSent,.bool x.s.done,iI x.r.next,.string x.r.data,.slice xa x.r.held.length xc,iI x.r.fin,.bool x.r.done,iI x.window,iI x.most,iI x.o.mss,iI x.o.scale,.bool x.o.sack,.bool x.o.stamp,iI x.o.val,iI x.o.echo,iI x.timer,iI x.tries] (ag (.slice Aa a.length Ca) 25 (a.map aQ)) (by kernel_rfl) rfl (by kernel_rfl) rfl rfl (by kernel_rfl) (by kernel_rfl) (by kernel_rfl) (by kernel_rfl) hlt (by simp) (fun w h => h) (fun b h => h) (by simp only [List.getElem?_map,hx]; rfl) ?_
 refine ci 1 [0,3,4,14,15,19] [(19,.v (.agg (conL x (cS xa x xc)).toArray))] 101 [.agg (conL x (cS xa x xc)).toArray] (some 20) rfl (xc_on (m := x.r.held.length) (F := fun v' => .agg (conL x v').toArray) (List.length_map ..) fun ww hf => toConn_c x.t.ip x.t.port x.t.my x.state x.s.una x.s.data x.s.sent x.s.fin x.s.finSent x.s.done x.r.next x.r.data x.r.held (cS xa x xc) x.r.fin x.r.done x.window x.most x.o.mss x.o.scale x.o.sack x.o.stamp x.o.val x.o.echo x.timer x.tries ww ((hf _ m3) (x,.slice xa x.r.held.length xc) (List.mem_of_getElem? hx)) (by omega)) ?_
 rintro ⟨v3a,v3c⟩
 refine cU 0 [0,3,4,14,15,20] [] (.pointer (some ⟨g1,i * 25,none⟩)) rfl (fun _ _ _ ww hr => act_ix (kd := .i64) (T := 46) (e := 108) (K := 25) (g := g1) (N := a.length) (cap := a.length) i rfl hr.1 rfl rfl (by kernel_rfl) (by kernel_rfl) (by kernel_rfl) (by omega) ww) ?_
 refine xl_hs 0 [0,3,4,20,21] ⟨[(0,.v (.slice Aa a.length Ca)),(3,.v (.slice (some ⟨g1,0,none⟩) a.length a.length)),(4,aI (i : Int)),(20,.v (.agg (conL x (cS v3a x v3c)).toArray)),(21,.v (.pointer (some ⟨g1,i * 25,none⟩)))],[],[[iI x.t.ip,iI x.t.port,iI x.t.my,iI x.state,iI x.s.una,.string x.s.data,iI x.s.sent,.bool x.s.fin,.bool x.s.finSent,.bool x.s.done,iI x.r.next,.string x.r.data,.slice xa x.r.held.length xc,iI x.r.fin,.bool x.r.done,iI x.window,iI x.most,iI x.o.mss,iI x.o.scale,.bool x.o.sack,.bool x.o.stamp,iI x.o.val,iI x.o.echo,iI x.timer,iI x.tries]],[bQ w.heap.size (cS v3a x v3c) 2 (x.r.held.map pC),bp w.heap.size l,bU w.heap.size 108 25 (.slice (some ⟨g1,0,none⟩) a.length a.length) (l.map aQ),ag (.slice Aa a.length Ca) 25 (a.map aQ),bJ a]⟩ (by kernel_rfl) rfl (by kernel_rfl) rfl (by kernel_rfl) (HSg.hs (hs_stR (g := g1) (B := w.heap.size) (e := 108) (K := 25) (N := a.length) (cap := a.length) (rs := (l.map aQ)) (rs' := (l.set i (((x,.slice v3a x.r.held.length v3c) : CV))).map aQ) (v := (.agg (conL x (cS v3a x v3c)).toArray)) (i := 2) (off := i * 25) i 0 [iI z.1.t.ip,iI z.1.t.port,iI z.1.t.my,iI z.1.state,iI z.1.s.una,.string z.1.s.data,iI z.1.s.sent,.bool z.1.s.fin,.bool z.1.s.finSent,.bool z.1.s.done,iI z.1.r.next,.string z.1.r.data,z.2,iI z.1.r.fin,.bool z.1.r.done,iI z.1.window,iI z.1.most,iI z.1.o.mss,iI z.1.o.scale,.bool z.1.o.sack,.bool z.1.o.stamp,iI z.1.o.val,iI z.1.o.echo,iI z.1.timer,iI z.1.tries] (row' := [iI x.t.ip,iI x.t.port,iI x.t.my,iI x.state,iI x.s.una,.string x.s.data,iI x.s.sent,.bool x.s.fin,.bool x.s.finSent,.bool x.s.done,iI x.r.next,.string x.r.data,.slice v3a x.r.held.length v3c,iI x.r.fin,.bool x.r.done,iI x.window,iI x.most,iI x.o.mss,iI x.o.scale,.bool x.o.sack,.bool x.o.stamp,iI x.o.val,iI x.o.echo,iI x.timer,iI x.tries]) rfl rfl (by kernel_rfl) rfl (by kernel_rfl) (by kernel_rfl) (by kernel_rfl) (by kernel_rfl) (Nat.le_refl _) (by simp only [List.getElem?_map,hz]; rfl) (by kernel_rfl) rfl (by rw [List.map_set]; rfl))) ?_
 refine aH [0,3,4] [] <| kG <| kRD 3 [0,3,4] [(4,aI (K6.wrap ((i : Int) + 1)))] <| bX [0,3,4] [(4,aI (K6.wrap ((i : Int) + 1)))] [(4,aI ((i : Int) + 1))] (by rw [show (K6.wrap ((i : Int) + 1)) = ((i : Int) + 1) from aY (by omega) (by omega)]) (by kernel_rfl) ?_
 refine bZ [0,3,4] [(0,.v (.slice Aa a.length Ca)),(3,.v (.slice (some ⟨g1,0,none⟩) a.length a.length)),(4,aI ((i : Int) + 1))] ?_
 exact ⟨⟨(i + 1,(l.set i (((x,.slice v3a x.r.held.length v3c) : CV)))),⟨hlt,(by rw [List.length_set]; exact hll),pl_set (x := (x,_)) HK hx (by omega)⟩⟩,kPk [1,2,0,3,4] <| (wk_turn (fun _ _ _ _ h => hown_set (cs := l) (i := i) (x := (((x,.slice v3a x.r.held.length v3c) : CV))) (by omega) h)).trans <| kF 0 0 [0,3,4],by show (fun (i : Nat) (l : List CV) => a.length - i) (i + 1) (l.set i (((x,.slice v3a x.r.held.length v3c) : CV))) < a.length - i; (dsimp only; omega)⟩
 have h2p := of_decide_eq_false h2
 have hge : i = a.length := by simp at h2; omega
 refine bF <| kQ <| bZ [2] [(2,.v (.slice (some ⟨g1,0,none⟩) a.length a.length))] <| kR ?_
 have hmc : pl l = pl a := by subst hge; have h1 := HK; rw [← hll] at h1; unfold pl at h1 ⊢; rw [List.take_of_length_le (by simp)] at h1; rw [h1,List.take_of_length_le (by simp; omega)]
 exact ⟨[.slice (some ⟨g1,0,none⟩) a.length a.length],by kernel_rfl,fun w' hb hf ha => xo2 (⟨l,hmc⟩,(((some ⟨g1,0,none⟩) : Option Addr),l.length)) (by show Value.slice _ _ _ = Value.slice _ _ _; rw [hll]) rfl (pW (by have h := hf (bU w.heap.size 108 25 (.slice (some ⟨g1,0,none⟩) a.length a.length) (l.map aQ)) (by simp); rw [← hll] at h; exact h) hB) (pH (hf (bp w.heap.size l) (by simp)) hB) (Apart.sub2 ha (i := 1) (j := 0) rfl rfl (by decide) rfl (fun b h => h) (fun b h => hownF_blk h)) hb⟩
theorem ytoTable_c (t : Tab) (t_connsV : Value) (t_waitingV : Value) (w : World) (hl_t_connsV : Sl w t_connsV 25 (t.conns.map aQ)) (hh_t_connsV : ∀ x ∈ t.conns, Sl w x.2 2 (x.1.r.held.map pC)) (hl_t_waitingV : Sl w t_waitingV 3 (t.waiting.map ay)) (hfit : ∀ x ∈ t.conns, cX x.1) (hln : t.conns.length ≤ 1048576) (hlw : t.waiting.length ≤ 1048576) (B : Nat) (hB : B ≤ w.heap.size) : Calls Try.prog 27 #[.agg (tabL t t_connsV t_waitingV).toArray] w fun e w' => XRs w w' e (α := {cs : List CV // pl cs = pl t.conns} × (Option Addr × Nat) × (Option Addr × Nat)) (fun y => .agg #[.slice y.2.1.1 y.1.1.length y.2.1.2, .slice y.2.2.1 t.waiting.length y.2.2.2]) (fun y => [bU B 108 25 (.slice y.2.1.1 y.1.1.length y.2.1.2) (y.1.1.map aQ), bp B y.1.1, bQ B (.slice y.2.2.1 t.waiting.length y.2.2.2) 3 (t.waiting.map ay)]) := by
 obtain ⟨Atc,Ctc,hvtc⟩ := hl_t_connsV.form
 rw [List.length_map] at hvtc; subst hvtc
 have hntc := hl_t_connsV.len; rw [List.length_map] at hntc
 have hqtc := Sl.capLe hl_t_connsV
 obtain ⟨Atw,Ctw,hvtw⟩ := hl_t_waitingV.form
 rw [List.length_map] at hvtw; subst hvtw
 have hntw := hl_t_waitingV.len; rw [List.length_map] at hntw
 have hqtw := Sl.capLe hl_t_waitingV
 refine x_callsA (args := [.agg (tabL t (.slice Atc t.conns.length Ctc) (.slice Atw t.waiting.length Ctw)).toArray]) (fn := Try.f27) [ag (.slice Atc t.conns.length Ctc) 25 (t.conns.map aQ),bJ t.conns,ag (.slice Atw t.waiting.length Ctw) 3 (t.waiting.map ay)] Try.func27 rfl Try.ntmps27 rfl (by simp only [List.mem_cons,List.not_mem_nil,or_false,forall_eq_or_imp,forall_eq]; exact ⟨⟨rfl,hl_t_connsV⟩,⟨rfl,hh_t_connsV⟩,⟨rfl,hl_t_waitingV⟩⟩) ?_
 refine kQ <| bH [1,2] ⟨[(1,.p 0 0),(2,.p 1 0)],[⟨34,tabL t (.slice Atc t.conns.length Ctc) (.slice Atw t.waiting.length Ctw)⟩,⟨49,[.slice none 0 0,.slice none 0 0]⟩],[],[ag (.slice Atc t.conns.length Ctc) 25 (t.conns.map aQ),bJ t.conns,ag (.slice Atw t.waiting.length Ctw) 3 (t.waiting.map ay)]⟩ <| kQ <| kEA [1,2,3] [(3,.p 2 0)] [⟨49,[.slice none 0 0,.slice none 0 0]⟩] ?_
 refine kQ <| ci 2 [1,2,3,5] [(5,.v (.slice Atc t.conns.length Ctc))] 63 [.slice Atc t.conns.length Ctc] (some 6) rfl (xc_r fun ww hw hf => ytoConnS_c t.conns (.slice Atc t.conns.length Ctc) ww (hf _ m0) (hf _ m1) (by assumption) (by omega) w.heap.size hw) ?_
 rintro ⟨⟨t1l,ht1l⟩,⟨t1a,t1c⟩⟩
 dsimp only
 refine kEU [1,2,3] [] 2 ⟨49,[.slice t1a t1l.length t1c,.slice none 0 0]⟩ <| kQ <| ci 2 [2,3,9] [(9,.v (.slice Atw t.waiting.length Ctw))] 64 [.slice Atw t.waiting.length Ctw] (some 10) rfl (xc_on (m := t.waiting.length) (F := fun v' => v') (List.length_map ..) fun ww hf => toTupleS_c (.slice Atw t.waiting.length Ctw) t.waiting ww (hf _ m4) (by omega)) ?_
 rintro ⟨v2a,v2c⟩
 refine kEU [2,3] [] 2 ⟨49,tabL { t with conns := t1l } (.slice t1a t1l.length t1c) (.slice v2a t.waiting.length v2c)⟩ <| kQ <| kEU [2] [(2,.p 1 0)] 1 ⟨49,tabL { t with conns := t1l } (.slice t1a t1l.length t1c) (.slice v2a t.waiting.length v2c)⟩ <| kR ?_
 have hmc : pl t1l = pl t.conns := by assumption
 exact ⟨[.agg (tabL { t with conns := t1l } (.slice t1a t1l.length t1c) (.slice v2a t.waiting.length v2c)).toArray],by kernel_rfl,fun w' hb hf ha => by exact xo3 (⟨t1l,hmc⟩,(t1a,t1c),(v2a,v2c)) rfl rfl (pW (hf _ m1) hB) (pH (hf _ m2) hB) (pO (hf _ m0) hB) (Apart.sub3 ha [1,2,0] rfl (by decide) rfl rfl rfl (by exact fun b h => h) (fun b h => hownF_blk h) (fun b h => h)) hb⟩
theorem yeqConnS_c (a : List CV) (aV : Value) (b : List CV) (bV : Value) (w : World) (hl_aV : Sl w aV 25 (a.map aQ)) (hh_aV : ∀ x ∈ a, Sl w x.2 2 (x.1.r.held.map pC)) (hl_bV : Sl w bV 25 (b.map aQ)) (hh_bV : ∀ x ∈ b, Sl w x.2 2 (x.1.r.held.map pC)) (hpl : pl a = pl b) : Calls Try.prog 72 #[aV, bV] w fun e w' => e = .returned (.bool true) ∧ Below w.heap.size w w' := by
 obtain ⟨Aa,Ca,hva⟩ := hl_aV.form
 rw [List.length_map] at hva; subst hva
 have hna := hl_aV.len; rw [List.length_map] at hna
 have hqa := Sl.capLe hl_aV
 obtain ⟨Ab,Cb,hvb⟩ := hl_bV.form
 rw [List.length_map] at hvb; subst hvb
 have hnb := hl_bV.len; rw [List.length_map] at hnb
 have hqb := Sl.capLe hl_bV
 have hlab := pl_len hpl
 refine aq (args := [.slice Aa a.length Ca,.slice Ab b.length Cb]) (fn := Try.f72) [ag (.slice Aa a.length Ca) 25 (a.map aQ),bJ a,ag (.slice Ab b.length Cb) 25 (b.map aQ),bJ b] Try.func72 rfl Try.ntmps72 rfl (by simp only [List.mem_cons,List.not_mem_nil,or_false,forall_eq_or_imp,forall_eq]; exact ⟨⟨rfl,hl_aV⟩,⟨rfl,hh_aV⟩,⟨rfl,hl_bV⟩,⟨rfl,hh_bV⟩⟩) ?_
 refine kQ <| bH [0,1] ⟨[(0,.v (.slice Aa a.length Ca)),(1,.v (.slice Ab b.length Cb))],[],[],[ag (.slice Aa a.length Ca) 25 (a.map aQ),bJ a,ag (.slice Ab b.length Cb) 25 (b.map aQ),bJ b]⟩ <| kS <| kQ <| aH [0,1,10] [(10,aB (((a.length : Nat) : Int) != ((b.length : Nat) : Int)))] ?_
 refine kC (((a.length : Nat) : Int) != ((b.length : Nat) : Int)) (fun h1 => ?_) (fun h1 => ?_)
 have h1p := neT h1
 exfalso; simp at h1; omega
 have h1p := neF h1
 refine kK <| kS <| kQ <| aH [0,1,5] [(5,aI 0)] ?_
 refine aZ <| bk (α := {x : Nat // (fun (i : Nat) => i ≤ a.length) x}) (fun x => (fun (i : Nat) => (⟨[(0,.v (.slice Aa a.length Ca)),(1,.v (.slice Ab b.length Cb)),(5,aI (i : Int))],[],[],[ag (.slice Aa a.length Ca) 25 (a.map aQ),bJ a,ag (.slice Ab b.length Cb) 25 (b.map aQ),bJ b]⟩ : St)) x.1) (fun x => (fun (i : Nat) => a.length - i) x.1) ⟨(0),Nat.zero_le _⟩ (kF 0 0 [0,1,5]) ?_
 rintro ⟨i,hi⟩
 try dsimp only
 try dsimp only at hi
 refine kS <| kQ <| aH [0,1,5,14] [(14,aB (decide ((i : Int) < ((a.length : Nat) : Int))))] <| kC (decide ((i : Int) < ((a.length : Nat) : Int))) (fun h2 => ?_) (fun h2 => ?_)
 have h2p := of_decide_eq_true h2
 have hlt : i < a.length := by simpa using h2
 obtain ⟨x0,hx⟩ : ∃ x,a[i]? = some x := ⟨_,List.getElem?_eq_getElem hlt⟩
 obtain ⟨x,xa,xc,rfl⟩ := cv_form (hh_aV x0 (List.mem_of_getElem? hx))
 obtain ⟨u,hu⟩ := pl_get hpl hx
 refine kK <| kS <| aZ <| kS <| xws_start ?_
 refine xws_row (K := 25) (j := i) [iI x.t.ip,iI x.t.port,iI x.t.my,iI x.state,iI x.s.una,.string x.s.data,iI x.s.sent,.bool x.s.fin,.bool x.s.finSent,.bool x.s.done,iI x.r.next,.string x.r.data,.slice xa x.r.held.length xc,iI x.r.fin,.bool x.r.done,iI x.window,iI x.most,iI x.o.mss,iI x.o.scale,.bool x.o.sack,.bool x.o.stamp,iI x.o.val,iI x.o.echo,iI x.timer,iI x.tries] (ag (.slice Aa a.length Ca) 25 (a.map aQ)) (fun _ _ h => h) (by simp) (fun w h => h) (fun b h => h) (by simp only [List.getElem?_map,hx]; rfl) (fun bq3 offq3 hAq3 => ?_)
 refine xws_row (K := 25) (j := i) [iI x.t.ip,iI x.t.port,iI x.t.my,iI x.state,iI x.s.una,.string x.s.data,iI x.s.sent,.bool x.s.fin,.bool x.s.finSent,.bool x.s.done,iI x.r.next,.string x.r.data,u,iI x.r.fin,.bool x.r.done,iI x.window,iI x.most,iI x.o.mss,iI x.o.scale,.bool x.o.sack,.bool x.o.stamp,iI x.o.val,iI x.o.echo,iI x.timer,iI x.tries] (ag (.slice Ab b.length Cb) 25 (b.map aQ)) (fun _ _ h => h) (by simp) (fun w h => h) (fun b h => h) (by simp only [List.getElem?_map,hu]; rfl) (fun bq4 offq4 hAq4 => ?_)
 refine xws_regionE [] (by kernel_rfl) (fun ρ σ hq5 => ?_)
 refine kTD [0,1,4,5] [22,21,18,17,0,1,5] 6 [(22,aI (i : Int)),(21,.v (.slice Ab b.length Cb)),(18,aI (i : Int)),(17,.v (.slice Aa a.length Ca))] <| xe_takeI (kd := .i64) (T := 46) (e := 108) (K := 25) (j := i) (A := Aa) (len := a.length) (cap := Ca) 2 0 _ rfl (by kernel_rfl) (by kernel_rfl) (by kernel_rfl) (fun _ _ h => h) (by kernel_rfl) rfl rfl (by kernel_rfl) (by kernel_rfl) (by kernel_rfl) (by kernel_rfl) hlt hAq3 hq5.1.2 (by kernel_rfl) rfl ?_
 refine kTD [3] [20,22,21,0,1,5] 4 [(20,.v (.agg (conL x (cS xa x xc)).toArray))] <| xe_takeI (kd := .i64) (T := 46) (e := 108) (K := 25) (j := i) (A := Ab) (len := b.length) (cap := Cb) 6 1 _ rfl (by kernel_rfl) (by kernel_rfl) (by kernel_rfl) (fun _ _ h => h) (by kernel_rfl) rfl rfl (by kernel_rfl) (by kernel_rfl) (by kernel_rfl) (by kernel_rfl) (by omega) hAq4 hq5.2 (by kernel_rfl) rfl ?_
 refine kTD [7] [24,20,0,1,5] 2 [(24,.v (.agg (conL x u).toArray))] <| kA [8] <| cw 8 107 [.agg (conL x (cS xa x xc)).toArray,.agg (conL x u).toArray] (some 25) rfl (ai fun ww hf => eqConn_c x.t.ip x.t.port x.t.my x.state x.s.una x.s.data x.s.sent x.s.fin x.s.finSent x.s.done x.r.next x.r.data x.r.held (cS xa x xc) x.r.fin x.r.done x.window x.most x.o.mss x.o.scale x.o.sack x.o.stamp x.o.val x.o.echo x.timer x.tries u ww ((hf _ m1) (x,.slice xa x.r.held.length xc) (List.mem_of_getElem? hx)) ((hf _ m3) (x,u) (List.mem_of_getElem? hu))) ?_
 intro _
 refine kTD [9] [26,0,1,5] 0 [(26,aB false)] <| kZ <| kN <| kK <| kG <| kRD 3 [0,1,5] [(5,aI (K6.wrap ((i : Int) + 1)))] ?_
 refine bX [0,1,5] [(5,aI (K6.wrap ((i : Int) + 1)))] [(5,aI ((i : Int) + 1))] (by rw [show (K6.wrap ((i : Int) + 1)) = ((i : Int) + 1) from aY (by omega) (by omega)]) (by kernel_rfl) ?_
 refine aH [0,1,5] [] ?_
 exact ⟨⟨(i + 1),hlt⟩,kF 0 0 [0,1,5],by show (fun (i : Nat) => a.length - i) (i + 1) < a.length - i; (dsimp only; omega)⟩
 have h2p := of_decide_eq_false h2
 have hge : i = a.length := by simp at h2; omega
 refine bF <| kQ <| bZ [4] [(4,aB true)] <| kR ?_
 exact ⟨[.bool true],by kernel_rfl,fun w' hb hf => ⟨rfl,hb⟩⟩
theorem yeqTable_c (a : List CV) (wt : List Tup) (pc : Value) (pw : Value) (b : List CV) (qc : Value) (qw : Value) (w : World) (hl_pc : Sl w pc 25 (a.map aQ)) (hh_pc : ∀ x ∈ a, Sl w x.2 2 (x.1.r.held.map pC)) (hl_pw : Sl w pw 3 (wt.map ay)) (hl_qc : Sl w qc 25 (b.map aQ)) (hh_qc : ∀ x ∈ b, Sl w x.2 2 (x.1.r.held.map pC)) (hl_qw : Sl w qw 3 (wt.map ay)) (hpl : pl a = pl b) : Calls Try.prog 34 #[.agg #[pc, pw], .agg #[qc, qw]] w fun e w' => e = .returned (.bool true) ∧ Below w.heap.size w w' := by
 obtain ⟨ra_pc,rc_pc,hv_pc⟩ := hl_pc.form
 rw [List.length_map] at hv_pc; subst hv_pc
 have hn_pc := hl_pc.len; rw [List.length_map] at hn_pc
 have hq_pc := Sl.capLe hl_pc
 obtain ⟨ra_pw,rc_pw,hv_pw⟩ := hl_pw.form
 rw [List.length_map] at hv_pw; subst hv_pw
 have hn_pw := hl_pw.len; rw [List.length_map] at hn_pw
 have hq_pw := Sl.capLe hl_pw
 obtain ⟨ra_qc,rc_qc,hv_qc⟩ := hl_qc.form
 rw [List.length_map] at hv_qc; subst hv_qc
 have hn_qc := hl_qc.len; rw [List.length_map] at hn_qc
 have hq_qc := Sl.capLe hl_qc
 obtain ⟨ra_qw,rc_qw,hv_qw⟩ := hl_qw.form
 rw [List.length_map] at hv_qw; subst hv_qw
 have hn_qw := hl_qw.len; rw [List.length_map] at hn_qw
 have hq_qw := Sl.capLe hl_qw
 refine aq (args := [.agg #[.slice ra_pc a.length rc_pc,.slice ra_pw wt.length rc_pw],.agg #[.slice ra_qc b.length rc_qc,.slice ra_qw wt.length rc_qw]]) (fn := Try.f34) [ag (.slice ra_pc a.length rc_pc) 25 (a.map aQ),bJ a,ag (.slice ra_pw wt.length rc_pw) 3 (wt.map ay),ag (.slice ra_qc b.length rc_qc) 25 (b.map aQ),bJ b,ag (.slice ra_qw wt.length rc_qw) 3 (wt.map ay)] Try.func34 rfl Try.ntmps34 rfl (by simp only [List.mem_cons,List.not_mem_nil,or_false,forall_eq_or_imp,forall_eq]; exact ⟨⟨rfl,hl_pc⟩,⟨rfl,hh_pc⟩,⟨rfl,hl_pw⟩,⟨rfl,hl_qc⟩,⟨rfl,hh_qc⟩,⟨rfl,hl_qw⟩⟩) ?_
 refine kQ <| bH [2,3] ⟨[(2,.p 0 0),(3,.p 1 0)],[⟨49,[.slice ra_pc a.length rc_pc,.slice ra_pw wt.length rc_pw]⟩,⟨49,[.slice ra_qc b.length rc_qc,.slice ra_qw wt.length rc_qw]⟩],[],[ag (.slice ra_pc a.length rc_pc) 25 (a.map aQ),bJ a,ag (.slice ra_pw wt.length rc_pw) 3 (wt.map ay),ag (.slice ra_qc b.length rc_qc) 25 (b.map aQ),bJ b,ag (.slice ra_qw wt.length rc_qw) 3 (wt.map ay)]⟩ <| kS <| kQ <| ci 4 [2,3,6,8] [(6,.v (.slice ra_pc a.length rc_pc)),(8,.v (.slice ra_qc b.length rc_qc))] 72 [.slice ra_pc a.length rc_pc,.slice ra_qc b.length rc_qc] (some 9) rfl (ai fun ww hf => yeqConnS_c a (.slice ra_pc a.length rc_pc) b (.slice ra_qc b.length rc_qc) ww (hf _ m0) (hf _ m1) (hf _ m3) (hf _ m4) (by first | assumption | (simp only [*]; done))) ?_
 intro _
 refine aH [2,3,10] [(10,aB false)] <| kN <| kK <| kS <| kQ <| kCS 4 [12,14] [(12,.v (.slice ra_pw wt.length rc_pw)),(14,.v (.slice ra_qw wt.length rc_qw))] 73 [.slice ra_pw wt.length rc_pw,.slice ra_qw wt.length rc_qw] (some 15) rfl (ai fun ww hf => eqTupleS_c (.slice ra_pw wt.length rc_pw) (.slice ra_qw wt.length rc_qw) wt ww (hf _ m2) (hf _ m5)) ?_
 intro _
 refine bZ [16] [(16,aB false)] <| kN <| kK <| kQ <| bZ [4] [(4,aB true)] ?_
 refine kR ?_
 exact ⟨[.bool true],by kernel_rfl,fun w' hb hf => ⟨rfl,hb⟩⟩
theorem ytoLimits_c (l : Lim) (w : World)  : Calls Try.prog 25 #[.agg (cW l).toArray] w fun e w' => e = .returned (.agg (cW l).toArray) ∧ Below w.heap.size w w' := by
 refine aq (args := [.agg (cW l).toArray]) (fn := Try.f25) [] Try.func25 rfl Try.ntmps25 rfl (by simp) ?_
 refine kQ <| bH [1,2] ⟨[(1,.p 0 0),(2,.p 1 0)],[⟨29,cW l⟩,⟨44,[iI 0,iI 0,iI 0,iI 0]⟩],[],[]⟩ <| kQ <| bH [1,2,3] ⟨[(1,.p 0 0),(2,.p 1 0),(3,.p 2 0)],[⟨29,cW l⟩,⟨44,[iI 0,iI 0,iI 0,iI 0]⟩,⟨44,[iI 0,iI 0,iI 0,iI 0]⟩],[],[]⟩ ?_
 refine kQ <| bH [1,2,3] ⟨[(1,.p 0 0),(2,.p 1 0),(3,.p 2 0)],[⟨29,cW l⟩,⟨44,[iI 0,iI 0,iI 0,iI 0]⟩,⟨44,[iI l.halves,iI 0,iI 0,iI 0]⟩],[],[]⟩ <| kQ <| bH [1,2,3] ⟨[(1,.p 0 0),(2,.p 1 0),(3,.p 2 0)],[⟨29,cW l⟩,⟨44,[iI 0,iI 0,iI 0,iI 0]⟩,⟨44,cW { l with conns := 0,chal := 0 }⟩],[],[]⟩ ?_
 refine kQ <| bH [1,2,3] ⟨[(1,.p 0 0),(2,.p 1 0),(3,.p 2 0)],[⟨29,cW l⟩,⟨44,[iI 0,iI 0,iI 0,iI 0]⟩,⟨44,cW { l with chal := 0 }⟩],[],[]⟩ <| kQ <| bH [2,3] ⟨[(2,.p 1 0),(3,.p 2 0)],[⟨29,cW l⟩,⟨44,[iI 0,iI 0,iI 0,iI 0]⟩,⟨44,cW l⟩],[],[]⟩ ?_
 refine kQ <| bH [2] ⟨[(2,.p 1 0)],[⟨29,cW l⟩,⟨44,cW l⟩,⟨44,cW l⟩],[],[]⟩ <| kR ?_
 exact ⟨[.agg (cW l).toArray],by kernel_rfl,fun w' hb hf => ⟨rfl,hb⟩⟩
theorem yszMacRow_c (a : Mrw) (left : Int) (w : World) (h0 : 0 ≤ left) (h1 : left ≤ 1048576) (hm : a.input.size ≤ maxLen) : Calls Try.prog 120 #[.agg (mrwL a).toArray, iI left] w fun e w' => ∃ r : Int, e = .returned (iI r) ∧ (r = -1 ∨ (0 ≤ r ∧ r ≤ left ∧ (a.input.size : Int) ≤ left)) ∧ Below w.heap.size w w' := by
 unfold maxLen at hm
 refine aq (args := [.agg (mrwL a).toArray,iI left]) (fn := Try.f120) [] Try.func120 rfl Try.ntmps120 rfl (by simp) ?_
 refine kQ <| bH [1,2] ⟨[(1,aI left),(2,.p 0 0)],[⟨157,mrwL a⟩],[],[]⟩ <| kQ <| kRS 6 [1] [(1,aI (K6.wrap (left - (a.input.size : Int))))] ?_
 refine bX [1] [(1,aI (K6.wrap (left - (a.input.size : Int))))] [(1,aI (left - (a.input.size : Int)))] (by rw [show (K6.wrap (left - (a.input.size : Int))) = (left - (a.input.size : Int)) from aY (by omega) (by omega)]) (by kernel_rfl) ?_
 refine aH [1] [] <| kS <| kQ <| aH [1,11] [(11,aB (decide ((left - (a.input.size : Int)) < 0)))] ?_
 refine kC (decide ((left - (a.input.size : Int)) < 0)) (fun h1 => ?_) (fun h1 => ?_)
 have h1p := of_decide_eq_true h1
 refine kQ <| bZ [4] [(4,aI (-1))] <| kR ?_
 exact ⟨[iI (-1)],by kernel_rfl,fun w' hb hf => ⟨_,rfl,.inl rfl,hb⟩⟩
 have h1p := of_decide_eq_false h1
 refine kK <| kQ <| bZ [4] [(4,aI (left - (a.input.size : Int)))] <| kR ?_
 exact ⟨[iI (left - (a.input.size : Int))],by kernel_rfl,fun w' hb hf => ⟨_,rfl,.inr ⟨by omega,by omega,by omega⟩,hb⟩⟩
theorem all_pre {α : Type} {p : α → Prop} {l : List α} {i : Nat} {x : α} (h : ∀ (j : Nat) (x : α), j < i → l[j]? = some x → p x) (hx : l[i]? = some x) (hp : p x) : ∀ (j : Nat) (x : α), j < i + 1 → l[j]? = some x → p x := fun j y hj hy => by
 rcases Nat.lt_succ_iff_lt_or_eq.1 hj with hj | rfl
 · exact h j y hj hy
 · rw [hx] at hy; simp only [Option.some.injEq] at hy; subst hy; exact hp
theorem all_end {α : Type} {p : α → Prop} {l : List α} {i : Nat} (hi : i = l.length) (h : ∀ (j : Nat) (x : α), j < i → l[j]? = some x → p x) : ∀ x ∈ l, p x := fun x hx => by
 obtain ⟨j,hj⟩ := List.getElem?_of_mem hx
 exact h j x (by rw [hi]; exact (List.getElem?_eq_some_iff.1 hj).1) hj
theorem yszMacRowS_c (a : List Mrw) (aV : Value) (left : Int) (w : World) (hl_aV : Sl w aV 2 (a.map a6)) (h0 : 0 ≤ left) (h1 : left ≤ 1048576) (hm : ∀ p ∈ a, p.input.size ≤ maxLen) : Calls Try.prog 97 #[aV, iI left] w fun e w' => ∃ r : Int, e = .returned (iI r) ∧ (r = -1 ∨ (0 ≤ r ∧ r ≤ left ∧ (a.length : Int) ≤ left ∧ ∀ p ∈ a, (p.input.size : Int) ≤ left)) ∧ Below w.heap.size w w' := by
 obtain ⟨Aa,Ca,hva⟩ := hl_aV.form
 rw [List.length_map] at hva; subst hva
 have hna := hl_aV.len; rw [List.length_map] at hna
 have hqa := Sl.capLe hl_aV
 refine aq (args := [.slice Aa a.length Ca,iI left]) (fn := Try.f97) [ag (.slice Aa a.length Ca) 2 (a.map a6)] Try.func97 rfl Try.ntmps97 rfl (by simp only [List.mem_cons,List.not_mem_nil,or_false,forall_eq_or_imp,forall_eq]; exact ⟨rfl,hl_aV⟩) ?_
 refine kQ <| bH [0,1] ⟨[(0,.v (.slice Aa a.length Ca)),(1,aI left)],[],[],[ag (.slice Aa a.length Ca) 2 (a.map a6)]⟩ <| kQ <| kRD 5 [0,1] [(1,aI (K6.wrap (left - ((a.length : Nat) : Int))))] ?_
 refine bX [0,1] [(1,aI (K6.wrap (left - ((a.length : Nat) : Int))))] [(1,aI (left - ((a.length : Nat) : Int)))] (by rw [show (K6.wrap (left - ((a.length : Nat) : Int))) = (left - ((a.length : Nat) : Int)) from aY (by omega) (by omega)]) (by kernel_rfl) ?_
 refine aH [0,1] [] <| kS <| kQ <| aH [0,1,11] [(11,aB (decide ((left - ((a.length : Nat) : Int)) < 0)))] ?_
 refine kC (decide ((left - ((a.length : Nat) : Int)) < 0)) (fun h1 => ?_) (fun h1 => ?_)
 have h1p := of_decide_eq_true h1
 refine kQ <| bZ [4] [(4,aI (-1))] <| kR ?_
 exact ⟨[iI (-1)],by kernel_rfl,fun w' hb hf => ⟨_,rfl,.inl rfl,hb⟩⟩
 have h1p := of_decide_eq_false h1
 refine kK <| kS <| kQ <| aH [0,1,5] [(5,aI 0)] ?_
 refine aZ <| bk (α := {x : Nat × Int // (fun (i : Nat) (z : Int) => i ≤ a.length ∧ 0 ≤ z ∧ z ≤ left - (a.length : Int) ∧ ∀ (j : Nat) (x : Mrw),j < i → a[j]? = some x → (x.input.size : Int) ≤ left) x.1 x.2}) (fun x => (fun (i : Nat) (z : Int) => (⟨[(0,.v (.slice Aa a.length Ca)),(1,aI z),(5,aI (i : Int))],[],[],[ag (.slice Aa a.length Ca) 2 (a.map a6)]⟩ : St)) x.1.1 x.1.2) (fun x => (fun (i : Nat) (z : Int) => a.length - i) x.1.1 x.1.2) ⟨(0,left - ((a.length : Nat) : Int)),⟨Nat.zero_le _,(by first | omega | (simp at *; omega)),(by omega),(fun j x hj => by omega)⟩⟩ (kF 0 0 [0,1,5]) ?_
 rintro ⟨⟨i,z⟩,hi,hz0,hz1,HK⟩
 try dsimp only
 try dsimp only at hi hz0 hz1 HK
 refine kS <| kQ <| aH [0,1,5,15] [(15,aB (decide ((i : Int) < ((a.length : Nat) : Int))))] <| kC (decide ((i : Int) < ((a.length : Nat) : Int))) (fun h2 => ?_) (fun h2 => ?_)
 have h2p := of_decide_eq_true h2
 have hlt : i < a.length := by simpa using h2
 obtain ⟨x,hx⟩ : ∃ x,a[i]? = some x := ⟨_,List.getElem?_eq_getElem hlt⟩
 have hmx := hm _ (List.mem_of_getElem? hx)
 refine kK <| kS <| aZ <| kQ <| cF (kd := .i64) (T := 23) (e := 157) (K := 2) 2 [0,1,5,18,19] [(18,.v (.slice Aa a.length Ca)),(19,aI (i : Int))] i [.string x.input,iI x.value] (ag (.slice Aa a.length Ca) 2 (a.map a6)) (by kernel_rfl) rfl (by kernel_rfl) rfl rfl (by kernel_rfl) (by kernel_rfl) (by kernel_rfl) (by kernel_rfl) hlt (by simp) (fun w h => h) (fun b h => h) (by simp only [List.getElem?_map,hx]; rfl) ?_
 refine ci 2 [0,1,5,21,22] [(21,.v (.agg (mrwL x).toArray)),(22,aI z)] 120 [.agg (mrwL x).toArray,iI z] (some 23) rfl (xc_e (α := Int) (F := fun y => iI y) (p := fun r => r = -1 ∨ (0 ≤ r ∧ r ≤ z ∧ (x.input.size : Int) ≤ z)) fun ww hf => yszMacRow_c x z ww (by omega) (by omega) hmx) ?_
 rintro ⟨r3,hr3⟩
 refine aH [0,1,5] [(1,aI r3)] <| kQ <| aH [0,1,5,25] [(25,aB (decide (r3 < 0)))] <| kC (decide (r3 < 0)) (fun h4 => ?_) (fun h4 => ?_)
 have h4p := of_decide_eq_true h4
 refine kQ <| bZ [4] [(4,aI (-1))] <| kR ?_
 exact ⟨[iI (-1)],by kernel_rfl,fun w' hb hf => ⟨_,rfl,.inl rfl,hb⟩⟩
 have h4p := of_decide_eq_false h4
 rcases hr3 with hr3 | ⟨hr3a,hr3b,hr3c⟩
 · omega
 refine kK <| kG <| kRS 3 [0,1,5] [(0,.v (.slice Aa a.length Ca)),(1,aI r3),(5,aI (K6.wrap ((i : Int) + 1)))] <| xl_eqS (t' := [(0,.v (.slice Aa a.length Ca)),(1,aI r3),(5,aI ((i : Int) + 1))]) (by rw [show (K6.wrap ((i : Int) + 1)) = ((i : Int) + 1) from aY (by omega) (by omega)]) ?_
 refine aH [0,1,5] [] ?_
 exact ⟨⟨(i + 1,r3),⟨hlt,by omega,by omega,all_pre HK hx (by omega)⟩⟩,kF 0 0 [0,1,5],by show (fun (i : Nat) (z : Int) => a.length - i) (i + 1) r3 < a.length - i; (dsimp only; omega)⟩
 have h2p := of_decide_eq_false h2
 have hge : i = a.length := by simp at h2; omega
 refine bF <| kQ <| bZ [4] [(4,aI z)] <| kR ?_
 exact ⟨[iI z],by kernel_rfl,fun w' hb hf => ⟨_,rfl,.inr ⟨by omega,by omega,by omega,all_end (p := fun x : Mrw => (x.input.size : Int) ≤ left) hge HK⟩,hb⟩⟩
theorem yszMac_c (m : Mac) (m_rowsV : Value) (left : Int) (w : World) (hl_m_rowsV : Sl w m_rowsV 2 (m.rows.map a6)) (h0 : 0 ≤ left) (h1 : left ≤ 1048576) (hm_m_rowsV : ∀ p ∈ m.rows, p.input.size ≤ maxLen) : Calls Try.prog 56 #[.agg (b8 m m_rowsV).toArray, iI left] w fun e w' => ∃ r : Int, e = .returned (iI r) ∧ (r = -1 ∨ (0 ≤ r ∧ r ≤ left ∧ (m.rows.length : Int) ≤ left ∧ ∀ p ∈ m.rows, (p.input.size : Int) ≤ left)) ∧ Below w.heap.size w w' := by
 obtain ⟨Amr,Cmr,hvmr⟩ := hl_m_rowsV.form
 rw [List.length_map] at hvmr; subst hvmr
 have hnmr := hl_m_rowsV.len; rw [List.length_map] at hnmr
 have hqmr := Sl.capLe hl_m_rowsV
 refine aq (args := [.agg (b8 m (.slice Amr m.rows.length Cmr)).toArray,iI left]) (fn := Try.f56) [ag (.slice Amr m.rows.length Cmr) 2 (m.rows.map a6)] Try.func56 rfl Try.ntmps56 rfl (by simp only [List.mem_cons,List.not_mem_nil,or_false,forall_eq_or_imp,forall_eq]; exact ⟨rfl,hl_m_rowsV⟩) ?_
 refine kQ <| bH [1,2] ⟨[(1,aI left),(2,.p 0 0)],[⟨25,b8 m (.slice Amr m.rows.length Cmr)⟩],[],[ag (.slice Amr m.rows.length Cmr) 2 (m.rows.map a6)]⟩ <| kQ <| ci 3 [1,6,7] [(6,.v (.slice Amr m.rows.length Cmr)),(7,aI left)] 97 [.slice Amr m.rows.length Cmr,iI left] (some 8) rfl (xc_e (α := Int) (F := fun y => iI y) (p := fun r => r = -1 ∨ (0 ≤ r ∧ r ≤ left ∧ (m.rows.length : Int) ≤ left ∧ ∀ p ∈ m.rows,(p.input.size : Int) ≤ left)) fun ww hf => yszMacRowS_c m.rows (.slice Amr m.rows.length Cmr) left ww (hf _ m0) (by omega) (by omega) hm_m_rowsV) ?_
 rintro ⟨r1,hr1⟩
 refine bZ [1] [(1,aI r1)] <| kS <| kQ <| aH [1,10] [(10,aB (decide (r1 < 0)))] ?_
 refine kC (decide (r1 < 0)) (fun h2 => ?_) (fun h2 => ?_)
 have h2p := of_decide_eq_true h2
 refine kQ <| bZ [4] [(4,aI (-1))] <| kR ?_
 exact ⟨[iI (-1)],by kernel_rfl,fun w' hb hf => ⟨_,rfl,.inl rfl,hb⟩⟩
 have h2p := of_decide_eq_false h2
 rcases hr1 with hr1 | ⟨hr1a,hr1b,hr1n,hr1c⟩
 · omega
 refine kK <| kQ <| bZ [4] [(4,aI r1)] <| kR ?_
 exact ⟨[iI r1],by kernel_rfl,fun w' hb hf => ⟨_,rfl,.inr ⟨by omega,by omega,by omega,hr1c⟩,hb⟩⟩
theorem yszKeys_c (k : Kys) (k_now_rowsV : Value) (k_before_rowsV : Value) (left : Int) (w : World) (hl_k_now_rowsV : Sl w k_now_rowsV 2 (k.now.rows.map a6)) (hl_k_before_rowsV : Sl w k_before_rowsV 2 (k.before.rows.map a6)) (h0 : 0 ≤ left) (h1 : left ≤ 1048576) (hm_k_now_rowsV : ∀ p ∈ k.now.rows, p.input.size ≤ maxLen) (hm_k_before_rowsV : ∀ p ∈ k.before.rows, p.input.size ≤ maxLen) : Calls Try.prog 18 #[.agg (ce k k_now_rowsV k_before_rowsV).toArray, iI left] w fun e w' => ∃ r : Int, e = .returned (iI r) ∧ (r = -1 ∨ (0 ≤ r ∧ r ≤ left ∧ (k.now.rows.length : Int) ≤ left ∧ (∀ p ∈ k.now.rows, (p.input.size : Int) ≤ left) ∧ (k.before.rows.length : Int) ≤ left ∧ (∀ p ∈ k.before.rows, (p.input.size : Int) ≤ left))) ∧ Below w.heap.size w w' := by
 obtain ⟨Aknr,Cknr,hvknr⟩ := hl_k_now_rowsV.form
 rw [List.length_map] at hvknr; subst hvknr
 have hnknr := hl_k_now_rowsV.len; rw [List.length_map] at hnknr
 have hqknr := Sl.capLe hl_k_now_rowsV
 obtain ⟨Akbr,Ckbr,hvkbr⟩ := hl_k_before_rowsV.form
 rw [List.length_map] at hvkbr; subst hvkbr
 have hnkbr := hl_k_before_rowsV.len; rw [List.length_map] at hnkbr
 have hqkbr := Sl.capLe hl_k_before_rowsV
 refine aq (args := [.agg (ce k (.slice Aknr k.now.rows.length Cknr) (.slice Akbr k.before.rows.length Ckbr)).toArray,iI left]) (fn := Try.f18) [ag (.slice Aknr k.now.rows.length Cknr) 2 (k.now.rows.map a6),ag (.slice Akbr k.before.rows.length Ckbr) 2 (k.before.rows.map a6)] Try.func18 rfl Try.ntmps18 rfl (by simp only [List.mem_cons,List.not_mem_nil,or_false,forall_eq_or_imp,forall_eq]; exact ⟨⟨rfl,hl_k_now_rowsV⟩,⟨rfl,hl_k_before_rowsV⟩⟩) ?_
 refine kQ <| bH [1,2] ⟨[(1,aI left),(2,.p 0 0)],[⟨27,ce k (.slice Aknr k.now.rows.length Cknr) (.slice Akbr k.before.rows.length Ckbr)⟩],[],[ag (.slice Aknr k.now.rows.length Cknr) 2 (k.now.rows.map a6),ag (.slice Akbr k.before.rows.length Ckbr) 2 (k.before.rows.map a6)]⟩ <| kQ <| ci 3 [1,2,6,7] [(6,.v (.agg (b8 k.now (.slice Aknr k.now.rows.length Cknr)).toArray)),(7,aI left)] 56 [.agg (b8 k.now (.slice Aknr k.now.rows.length Cknr)).toArray,iI left] (some 8) rfl (xc_e (α := Int) (F := fun y => iI y) (p := fun r => r = -1 ∨ (0 ≤ r ∧ r ≤ left ∧ (k.now.rows.length : Int) ≤ left ∧ ∀ p ∈ k.now.rows,(p.input.size : Int) ≤ left)) fun ww hf => yszMac_c k.now (.slice Aknr k.now.rows.length Cknr) left ww (hf _ m0) (by omega) (by omega) hm_k_now_rowsV) ?_
 rintro ⟨r1,hr1⟩
 refine aH [1,2] [(1,aI r1)] <| kS <| kQ <| aH [1,2,10] [(10,aB (decide (r1 < 0)))] ?_
 refine kC (decide (r1 < 0)) (fun h2 => ?_) (fun h2 => ?_)
 have h2p := of_decide_eq_true h2
 refine kQ <| bZ [4] [(4,aI (-1))] <| kR ?_
 exact ⟨[iI (-1)],by kernel_rfl,fun w' hb hf => ⟨_,rfl,.inl rfl,hb⟩⟩
 have h2p := of_decide_eq_false h2
 rcases hr1 with hr1 | ⟨hr1a,hr1b,hr1n,hr1c⟩
 · omega
 refine kK <| kQ <| ci 3 [1,12,13] [(12,.v (.agg (b8 k.before (.slice Akbr k.before.rows.length Ckbr)).toArray)),(13,aI r1)] 56 [.agg (b8 k.before (.slice Akbr k.before.rows.length Ckbr)).toArray,iI r1] (some 14) rfl (xc_e (α := Int) (F := fun y => iI y) (p := fun r => r = -1 ∨ (0 ≤ r ∧ r ≤ r1 ∧ (k.before.rows.length : Int) ≤ r1 ∧ ∀ p ∈ k.before.rows,(p.input.size : Int) ≤ r1)) fun ww hf => yszMac_c k.before (.slice Akbr k.before.rows.length Ckbr) r1 ww (hf _ m1) (by omega) (by omega) hm_k_before_rowsV) ?_
 rintro ⟨r3,hr3⟩
 refine bZ [1] [(1,aI r3)] <| kS <| kQ <| aH [1,16] [(16,aB (decide (r3 < 0)))] ?_
 refine kC (decide (r3 < 0)) (fun h4 => ?_) (fun h4 => ?_)
 have h4p := of_decide_eq_true h4
 refine kQ <| bZ [4] [(4,aI (-1))] <| kR ?_
 exact ⟨[iI (-1)],by kernel_rfl,fun w' hb hf => ⟨_,rfl,.inl rfl,hb⟩⟩
 have h4p := of_decide_eq_false h4
 rcases hr3 with hr3 | ⟨hr3a,hr3b,hr3n,hr3c⟩
 · omega
 refine kK <| kQ <| bZ [4] [(4,aI r3)] <| kR ?_
 exact ⟨[iI r3],by kernel_rfl,fun w' hb hf => ⟨_,rfl,.inr ⟨by omega,by omega,by omega,fun p hp => by have := hr1c p hp; omega,by omega,fun p hp => by have := hr3c p hp; omega⟩,hb⟩⟩
theorem yszDoor_c (d : Dor) (d_keys_now_rowsV : Value) (d_keys_before_rowsV : Value) (d_halvesV : Value) (d_table_connsV : Value) (d_table_waitingV : Value) (left : Int) (w : World) (hl_d_keys_now_rowsV : Sl w d_keys_now_rowsV 2 (d.keys.now.rows.map a6)) (hl_d_keys_before_rowsV : Sl w d_keys_before_rowsV 2 (d.keys.before.rows.map a6)) (hl_d_halvesV : Sl w d_halvesV 13 (d.halves.map av)) (hl_d_table_connsV : Sl w d_table_connsV 25 (d.table.conns.map aQ)) (hh_d_table_connsV : ∀ x ∈ d.table.conns, Sl w x.2 2 (x.1.r.held.map pC)) (hl_d_table_waitingV : Sl w d_table_waitingV 3 (d.table.waiting.map ay)) (h0 : 0 ≤ left) (h1 : left ≤ 1048576) (hm_d_keys_now_rowsV : ∀ p ∈ d.keys.now.rows, p.input.size ≤ maxLen) (hm_d_keys_before_rowsV : ∀ p ∈ d.keys.before.rows, p.input.size ≤ maxLen) (hm_d_table_connsV : ∀ x ∈ d.table.conns, conMax x.1) : Calls Try.prog 6 #[.agg (bT d d_keys_now_rowsV d_keys_before_rowsV d_halvesV d_table_connsV d_table_waitingV).toArray, iI left] w fun e w' => ∃ r : Int, e = .returned (iI r) ∧ (r = -1 ∨ (r ≤ left ∧ 0 ≤ r ∧ (d.keys.now.rows.length : Int) ≤ 1048576 ∧ (∀ p ∈ d.keys.now.rows, (p.input.size : Int) ≤ 1048576) ∧ (d.keys.before.rows.length : Int) ≤ 1048576 ∧ (∀ p ∈ d.keys.before.rows, (p.input.size : Int) ≤ 1048576) ∧ d.halves.length ≤ 1048576 ∧ (∀ x ∈ d.table.conns, cX x.1) ∧ d.table.conns.length ≤ 1048576 ∧ d.table.waiting.length ≤ 1048576)) ∧ Below w.heap.size w w' := by
 obtain ⟨Adknr,Cdknr,hvdknr⟩ := hl_d_keys_now_rowsV.form
 rw [List.length_map] at hvdknr; subst hvdknr
 have hndknr := hl_d_keys_now_rowsV.len; rw [List.length_map] at hndknr
 have hqdknr := Sl.capLe hl_d_keys_now_rowsV
 obtain ⟨Adkbr,Cdkbr,hvdkbr⟩ := hl_d_keys_before_rowsV.form
 rw [List.length_map] at hvdkbr; subst hvdkbr
 have hndkbr := hl_d_keys_before_rowsV.len; rw [List.length_map] at hndkbr
 have hqdkbr := Sl.capLe hl_d_keys_before_rowsV
 obtain ⟨Adh,Cdh,hvdh⟩ := hl_d_halvesV.form
 rw [List.length_map] at hvdh; subst hvdh
 have hndh := hl_d_halvesV.len; rw [List.length_map] at hndh
 have hqdh := Sl.capLe hl_d_halvesV
 obtain ⟨Adtc,Cdtc,hvdtc⟩ := hl_d_table_connsV.form
 rw [List.length_map] at hvdtc; subst hvdtc
 have hndtc := hl_d_table_connsV.len; rw [List.length_map] at hndtc
 have hqdtc := Sl.capLe hl_d_table_connsV
 obtain ⟨Adtw,Cdtw,hvdtw⟩ := hl_d_table_waitingV.form
 rw [List.length_map] at hvdtw; subst hvdtw
 have hndtw := hl_d_table_waitingV.len; rw [List.length_map] at hndtw
 have hqdtw := Sl.capLe hl_d_table_waitingV
 refine aq (args := [.agg (bT d (.slice Adknr d.keys.now.rows.length Cdknr) (.slice Adkbr d.keys.before.rows.length Cdkbr) (.slice Adh d.halves.length Cdh) (.slice Adtc d.table.conns.length Cdtc) (.slice Adtw d.table.waiting.length Cdtw)).toArray,iI left]) (fn := Try.f6) [ag (.slice Adknr d.keys.now.rows.length Cdknr) 2 (d.keys.now.rows.map a6),ag (.slice Adkbr d.keys.before.rows.length Cdkbr) 2 (d.keys.before.rows.map a6),ag (.slice Adh d.halves.length Cdh) 13 (d.halves.map av),ag (.slice Adtc d.table.conns.length Cdtc) 25 (d.table.conns.map aQ),bJ d.table.conns,ag (.slice Adtw d.table.waiting.length Cdtw) 3 (d.table.waiting.map ay)] Try.func6 rfl Try.ntmps6 rfl (by simp only [List.mem_cons,List.not_mem_nil,or_false,forall_eq_or_imp,forall_eq]; exact ⟨⟨rfl,hl_d_keys_now_rowsV⟩,⟨rfl,hl_d_keys_before_rowsV⟩,⟨rfl,hl_d_halvesV⟩,⟨rfl,hl_d_table_connsV⟩,⟨rfl,hh_d_table_connsV⟩,⟨rfl,hl_d_table_waitingV⟩⟩) ?_
 refine kQ <| bH [1,2] ⟨[(1,aI left),(2,.p 0 0)],[⟨36,bT d (.slice Adknr d.keys.now.rows.length Cdknr) (.slice Adkbr d.keys.before.rows.length Cdkbr) (.slice Adh d.halves.length Cdh) (.slice Adtc d.table.conns.length Cdtc) (.slice Adtw d.table.waiting.length Cdtw)⟩],[],[ag (.slice Adknr d.keys.now.rows.length Cdknr) 2 (d.keys.now.rows.map a6),ag (.slice Adkbr d.keys.before.rows.length Cdkbr) 2 (d.keys.before.rows.map a6),ag (.slice Adh d.halves.length Cdh) 13 (d.halves.map av),ag (.slice Adtc d.table.conns.length Cdtc) 25 (d.table.conns.map aQ),bJ d.table.conns,ag (.slice Adtw d.table.waiting.length Cdtw) 3 (d.table.waiting.map ay)]⟩ <| kQ <| ci 3 [1,2,6,7] [(6,.v (.agg (ce d.keys (.slice Adknr d.keys.now.rows.length Cdknr) (.slice Adkbr d.keys.before.rows.length Cdkbr)).toArray)),(7,aI left)] 18 [.agg (ce d.keys (.slice Adknr d.keys.now.rows.length Cdknr) (.slice Adkbr d.keys.before.rows.length Cdkbr)).toArray,iI left] (some 8) rfl (xc_e (α := Int) (F := fun y => iI y) (p := fun r => r = -1 ∨ (0 ≤ r ∧ r ≤ left ∧ (d.keys.now.rows.length : Int) ≤ left ∧ (∀ p ∈ d.keys.now.rows,(p.input.size : Int) ≤ left) ∧ (d.keys.before.rows.length : Int) ≤ left ∧ (∀ p ∈ d.keys.before.rows,(p.input.size : Int) ≤ left))) fun ww hf => yszKeys_c d.keys (.slice Adknr d.keys.now.rows.length Cdknr) (.slice Adkbr d.keys.before.rows.length Cdkbr) left ww (hf _ m0) (hf _ m1) (by omega) (by omega) hm_d_keys_now_rowsV hm_d_keys_before_rowsV) ?_
 rintro ⟨r1,hr1⟩
 refine aH [1,2] [(1,aI r1)] <| kS <| kQ <| aH [1,2,10] [(10,aB (decide (r1 < 0)))] ?_
 refine kC (decide (r1 < 0)) (fun h2 => ?_) (fun h2 => ?_)
 have h2p := of_decide_eq_true h2
 refine kQ <| bZ [4] [(4,aI (-1))] <| kR ?_
 exact ⟨[iI (-1)],by kernel_rfl,fun w' hb hf => ⟨_,rfl,.inl rfl,hb⟩⟩
 have h2p := of_decide_eq_false h2
 rcases hr1 with hr1 | ⟨hr1a,hr1b,hr1n,hr1m,hr1o,hr1p⟩
 · omega
 refine kK <| kQ <| ci 3 [1,2,12,13] [(12,.v (.slice Adh d.halves.length Cdh)),(13,aI r1)] 19 [.slice Adh d.halves.length Cdh,iI r1] (some 14) rfl (xc_s fun ww hf => szHalfS_c (.slice Adh d.halves.length Cdh) d.halves r1 ww (hf _ m2) (by omega) (by omega)) ?_
 intro _
 refine aH [1,2] [(1,aI (if (r1 : Int) < d.halves.length then -1 else (r1 : Int) - d.halves.length))] <| kS <| kQ <| aH [1,2,16] [(16,aB (decide ((if (r1 : Int) < d.halves.length then -1 else (r1 : Int) - d.halves.length) < 0)))] ?_
 refine kC (decide ((if (r1 : Int) < d.halves.length then -1 else (r1 : Int) - d.halves.length) < 0)) (fun h3 => ?_) (fun h3 => ?_)
 have h3p := of_decide_eq_true h3
 refine kQ <| bZ [4] [(4,aI (-1))] <| kR ?_
 exact ⟨[iI (-1)],by kernel_rfl,fun w' hb hf => ⟨_,rfl,.inl rfl,hb⟩⟩
 have h3p := of_decide_eq_false h3
 have hsz_d_halves : d.halves.length ≤ 1048576 := by by_cases hh : (r1 : Int) < (d.halves.length : Int) <;> simp [hh] at h3; omega
 refine kK <| kQ <| ci 3 [1,18,19] [(18,.v (.agg (tabL d.table (.slice Adtc d.table.conns.length Cdtc) (.slice Adtw d.table.waiting.length Cdtw)).toArray)),(19,aI (if (r1 : Int) < d.halves.length then -1 else (r1 : Int) - d.halves.length))] 20 [.agg (tabL d.table (.slice Adtc d.table.conns.length Cdtc) (.slice Adtw d.table.waiting.length Cdtw)).toArray,iI (if (r1 : Int) < d.halves.length then -1 else (r1 : Int) - d.halves.length)] (some 20) rfl (xc_e (α := Int) (F := fun y => iI y) (p := fun r => r = -1 ∨ (0 ≤ r ∧ r ≤ (if (r1 : Int) < d.halves.length then -1 else (r1 : Int) - d.halves.length) ∧ (d.table.conns.length : Int) ≤ (if (r1 : Int) < d.halves.length then -1 else (r1 : Int) - d.halves.length) ∧ (∀ x ∈ d.table.conns,ConFit (if (r1 : Int) < d.halves.length then -1 else (r1 : Int) - d.halves.length) x.1) ∧ (d.table.waiting.length : Int) ≤ (if (r1 : Int) < d.halves.length then -1 else (r1 : Int) - d.halves.length))) fun ww hf => yszTable_c d.table.conns d.table.waiting (.slice Adtc d.table.conns.length Cdtc) (.slice Adtw d.table.waiting.length Cdtw) (if (r1 : Int) < d.halves.length then -1 else (r1 : Int) - d.halves.length) ww (hf _ m3) (hf _ m4) (hf _ m5) (by omega) (by omega) hm_d_table_connsV) ?_
 rintro ⟨r4,hr4⟩
 refine bZ [1] [(1,aI r4)] <| kS <| kQ <| aH [1,22] [(22,aB (decide (r4 < 0)))] ?_
 refine kC (decide (r4 < 0)) (fun h5 => ?_) (fun h5 => ?_)
 have h5p := of_decide_eq_true h5
 refine kQ <| bZ [4] [(4,aI (-1))] <| kR ?_
 exact ⟨[iI (-1)],by kernel_rfl,fun w' hb hf => ⟨_,rfl,.inl rfl,hb⟩⟩
 have h5p := of_decide_eq_false h5
 rcases hr4 with hr4 | ⟨hr4a,hr4b,hr4n,hr4c,hr4w⟩
 · omega
 have hfit_d_table_connsV : ∀ x ∈ d.table.conns,cX x.1 := fun x hx => (hr4c x hx).fit (by omega)
 have hln_d_table_connsV : d.table.conns.length ≤ 1048576 := by omega
 have hlw_d_table_connsV : d.table.waiting.length ≤ 1048576 := by omega
 refine kK <| kQ <| bZ [4] [(4,aI r4)] <| kR ?_
 exact ⟨[iI r4],by kernel_rfl,fun w' hb hf => ⟨_,rfl,.inr ⟨by omega,by omega,by omega,fun p hp => by have := hr1m p hp; omega,by omega,fun p hp => by have := hr1p p hp; omega,by omega,hfit_d_table_connsV,hln_d_table_connsV,hlw_d_table_connsV⟩,hb⟩⟩
theorem ytoMac_c (m : Mac) (m_rowsV : Value) (w : World) (hl_m_rowsV : Sl w m_rowsV 2 (m.rows.map a6)) (hrn : m.rows.length ≤ 1048576) (B : Nat) (hB : B ≤ w.heap.size) : Calls Try.prog 61 #[.agg (b8 m m_rowsV).toArray] w fun e w' => XRs w w' e (α := Option Addr × Nat) (fun y => .agg (b8 m (.slice y.1 m.rows.length y.2)).toArray) (fun y => [bQ B (.slice y.1 m.rows.length y.2) 2 (m.rows.map a6)]) := by
 obtain ⟨Amr,Cmr,hvmr⟩ := hl_m_rowsV.form
 rw [List.length_map] at hvmr; subst hvmr
 have hnmr := hl_m_rowsV.len; rw [List.length_map] at hnmr
 have hqmr := Sl.capLe hl_m_rowsV
 refine x_callsA (args := [.agg (b8 m (.slice Amr m.rows.length Cmr)).toArray]) (fn := Try.f61) [ag (.slice Amr m.rows.length Cmr) 2 (m.rows.map a6)] Try.func61 rfl Try.ntmps61 rfl (by simp only [List.mem_cons,List.not_mem_nil,or_false,forall_eq_or_imp,forall_eq]; exact ⟨rfl,hl_m_rowsV⟩) ?_
 refine kQ <| bH [1,2] ⟨[(1,.p 0 0),(2,.p 1 0)],[⟨25,b8 m (.slice Amr m.rows.length Cmr)⟩,⟨41,[.bool false,.int .u64 0,.int .u64 0,.slice none 0 0]⟩],[],[ag (.slice Amr m.rows.length Cmr) 2 (m.rows.map a6)]⟩ <| kQ <| bH [1,2,3] ⟨[(1,.p 0 0),(2,.p 1 0),(3,.p 2 0)],[⟨25,b8 m (.slice Amr m.rows.length Cmr)⟩,⟨41,[.bool false,.int .u64 0,.int .u64 0,.slice none 0 0]⟩,⟨41,[.bool false,.int .u64 0,.int .u64 0,.slice none 0 0]⟩],[],[ag (.slice Amr m.rows.length Cmr) 2 (m.rows.map a6)]⟩ ?_
 refine kQ <| bH [1,2,3] ⟨[(1,.p 0 0),(2,.p 1 0),(3,.p 2 0)],[⟨25,b8 m (.slice Amr m.rows.length Cmr)⟩,⟨41,[.bool false,.int .u64 0,.int .u64 0,.slice none 0 0]⟩,⟨41,[.bool m.use,.int .u64 0,.int .u64 0,.slice none 0 0]⟩],[],[ag (.slice Amr m.rows.length Cmr) 2 (m.rows.map a6)]⟩ <| kQ <| bH [1,2,3] ⟨[(1,.p 0 0),(2,.p 1 0),(3,.p 2 0)],[⟨25,b8 m (.slice Amr m.rows.length Cmr)⟩,⟨41,[.bool false,.int .u64 0,.int .u64 0,.slice none 0 0]⟩,⟨41,[.bool m.use,.int .u64 m.k,.int .u64 0,.slice none 0 0]⟩],[],[ag (.slice Amr m.rows.length Cmr) 2 (m.rows.map a6)]⟩ ?_
 refine kQ <| bH [1,2,3] ⟨[(1,.p 0 0),(2,.p 1 0),(3,.p 2 0)],[⟨25,b8 m (.slice Amr m.rows.length Cmr)⟩,⟨41,[.bool false,.int .u64 0,.int .u64 0,.slice none 0 0]⟩,⟨41,[.bool m.use,.int .u64 m.k,.int .u64 m.l,.slice none 0 0]⟩],[],[ag (.slice Amr m.rows.length Cmr) 2 (m.rows.map a6)]⟩ <| kQ <| kCS 2 [2,3,14] [(2,.p 1 0),(3,.p 2 0),(14,.v (.slice Amr m.rows.length Cmr))] 100 [.slice Amr m.rows.length Cmr] (some 15) rfl (xc_on (m := m.rows.length) (F := fun v' => v') (List.length_map ..) fun ww hf => toMacRowS_c (.slice Amr m.rows.length Cmr) m.rows ww (hf _ m0) (by omega)) ?_
 rintro ⟨v1a,v1c⟩
 refine bH [2,3] ⟨[(2,.p 1 0),(3,.p 2 0)],[⟨25,b8 m (.slice Amr m.rows.length Cmr)⟩,⟨41,[.bool false,.int .u64 0,.int .u64 0,.slice none 0 0]⟩,⟨41,b8 m (.slice v1a m.rows.length v1c)⟩],[],[bQ w.heap.size (.slice v1a m.rows.length v1c) 2 (m.rows.map a6),ag (.slice Amr m.rows.length Cmr) 2 (m.rows.map a6)]⟩ <| kQ <| bH [2] ⟨[(2,.p 1 0)],[⟨25,b8 m (.slice Amr m.rows.length Cmr)⟩,⟨41,b8 m (.slice v1a m.rows.length v1c)⟩,⟨41,b8 m (.slice v1a m.rows.length v1c)⟩],[],[bQ w.heap.size (.slice v1a m.rows.length v1c) 2 (m.rows.map a6),ag (.slice Amr m.rows.length Cmr) 2 (m.rows.map a6)]⟩ <| kR ?_
 exact ⟨[.agg (b8 m (.slice v1a m.rows.length v1c)).toArray],by kernel_rfl,fun w' hb hf ha => by exact xo1 ((v1a,v1c)) rfl rfl (pO (hf _ m0) hB) hb⟩
theorem ytoKeys_c (k : Kys) (k_now_rowsV : Value) (k_before_rowsV : Value) (w : World) (hl_k_now_rowsV : Sl w k_now_rowsV 2 (k.now.rows.map a6)) (hl_k_before_rowsV : Sl w k_before_rowsV 2 (k.before.rows.map a6)) (hrn : k.now.rows.length ≤ 1048576) (hrb : k.before.rows.length ≤ 1048576) (B : Nat) (hB : B ≤ w.heap.size) : Calls Try.prog 24 #[.agg (ce k k_now_rowsV k_before_rowsV).toArray] w fun e w' => XRs w w' e (α := (Option Addr × Nat) × (Option Addr × Nat)) (fun y => .agg (ce k (.slice y.1.1 k.now.rows.length y.1.2) (.slice y.2.1 k.before.rows.length y.2.2)).toArray) (fun y => [bQ B (.slice y.1.1 k.now.rows.length y.1.2) 2 (k.now.rows.map a6), bQ B (.slice y.2.1 k.before.rows.length y.2.2) 2 (k.before.rows.map a6)]) := by
 obtain ⟨Aknr,Cknr,hvknr⟩ := hl_k_now_rowsV.form
 rw [List.length_map] at hvknr; subst hvknr
 have hnknr := hl_k_now_rowsV.len; rw [List.length_map] at hnknr
 have hqknr := Sl.capLe hl_k_now_rowsV
 obtain ⟨Akbr,Ckbr,hvkbr⟩ := hl_k_before_rowsV.form
 rw [List.length_map] at hvkbr; subst hvkbr
 have hnkbr := hl_k_before_rowsV.len; rw [List.length_map] at hnkbr
 have hqkbr := Sl.capLe hl_k_before_rowsV
 refine x_callsA (args := [.agg (ce k (.slice Aknr k.now.rows.length Cknr) (.slice Akbr k.before.rows.length Ckbr)).toArray]) (fn := Try.f24) [ag (.slice Aknr k.now.rows.length Cknr) 2 (k.now.rows.map a6),ag (.slice Akbr k.before.rows.length Ckbr) 2 (k.before.rows.map a6)] Try.func24 rfl Try.ntmps24 rfl (by simp only [List.mem_cons,List.not_mem_nil,or_false,forall_eq_or_imp,forall_eq]; exact ⟨⟨rfl,hl_k_now_rowsV⟩,⟨rfl,hl_k_before_rowsV⟩⟩) ?_
 refine kQ <| bH [1,2] ⟨[(1,.p 0 0),(2,.p 1 0)],[⟨27,ce k (.slice Aknr k.now.rows.length Cknr) (.slice Akbr k.before.rows.length Ckbr)⟩,⟨43,[iI 0,.bool false,.int .u64 0,.int .u64 0,.slice none 0 0,.bool false,.int .u64 0,.int .u64 0,.slice none 0 0,.bool false]⟩],[],[ag (.slice Aknr k.now.rows.length Cknr) 2 (k.now.rows.map a6),ag (.slice Akbr k.before.rows.length Ckbr) 2 (k.before.rows.map a6)]⟩ <| kQ <| bH [1,2,3] ⟨[(1,.p 0 0),(2,.p 1 0),(3,.p 2 0)],[⟨27,ce k (.slice Aknr k.now.rows.length Cknr) (.slice Akbr k.before.rows.length Ckbr)⟩,⟨43,[iI 0,.bool false,.int .u64 0,.int .u64 0,.slice none 0 0,.bool false,.int .u64 0,.int .u64 0,.slice none 0 0,.bool false]⟩,⟨43,[iI 0,.bool false,.int .u64 0,.int .u64 0,.slice none 0 0,.bool false,.int .u64 0,.int .u64 0,.slice none 0 0,.bool false]⟩],[],[ag (.slice Aknr k.now.rows.length Cknr) 2 (k.now.rows.map a6),ag (.slice Akbr k.before.rows.length Ckbr) 2 (k.before.rows.map a6)]⟩ ?_
 refine kQ <| bH [1,2,3] ⟨[(1,.p 0 0),(2,.p 1 0),(3,.p 2 0)],[⟨27,ce k (.slice Aknr k.now.rows.length Cknr) (.slice Akbr k.before.rows.length Ckbr)⟩,⟨43,[iI 0,.bool false,.int .u64 0,.int .u64 0,.slice none 0 0,.bool false,.int .u64 0,.int .u64 0,.slice none 0 0,.bool false]⟩,⟨43,[iI k.epoch,.bool false,.int .u64 0,.int .u64 0,.slice none 0 0,.bool false,.int .u64 0,.int .u64 0,.slice none 0 0,.bool false]⟩],[],[ag (.slice Aknr k.now.rows.length Cknr) 2 (k.now.rows.map a6),ag (.slice Akbr k.before.rows.length Ckbr) 2 (k.before.rows.map a6)]⟩ <| kQ <| kCS 2 [1,2,3,8] [(1,.p 0 0),(2,.p 1 0),(3,.p 2 0),(8,.v (.agg (b8 k.now (.slice Aknr k.now.rows.length Cknr)).toArray))] 61 [.agg (b8 k.now (.slice Aknr k.now.rows.length Cknr)).toArray] (some 9) rfl (xc_r fun ww hw hf => ytoMac_c k.now (.slice Aknr k.now.rows.length Cknr) ww (hf _ m0) (by first | assumption | omega) w.heap.size hw) ?_
 rintro ⟨v1a,v1c⟩
 refine bH [1,2,3] ⟨[(1,.p 0 0),(2,.p 1 0),(3,.p 2 0)],[⟨27,ce k (.slice Aknr k.now.rows.length Cknr) (.slice Akbr k.before.rows.length Ckbr)⟩,⟨43,[iI 0,.bool false,.int .u64 0,.int .u64 0,.slice none 0 0,.bool false,.int .u64 0,.int .u64 0,.slice none 0 0,.bool false]⟩,⟨43,[iI k.epoch,.bool k.now.use,.int .u64 k.now.k,.int .u64 k.now.l,.slice v1a k.now.rows.length v1c,.bool false,.int .u64 0,.int .u64 0,.slice none 0 0,.bool false]⟩],[],[bQ w.heap.size (.slice v1a k.now.rows.length v1c) 2 (k.now.rows.map a6),ag (.slice Aknr k.now.rows.length Cknr) 2 (k.now.rows.map a6),ag (.slice Akbr k.before.rows.length Ckbr) 2 (k.before.rows.map a6)]⟩ <| kQ <| kCS 2 [1,2,3,12] [(1,.p 0 0),(2,.p 1 0),(3,.p 2 0),(12,.v (.agg (b8 k.before (.slice Akbr k.before.rows.length Ckbr)).toArray))] 61 [.agg (b8 k.before (.slice Akbr k.before.rows.length Ckbr)).toArray] (some 13) rfl (xc_r fun ww hw hf => ytoMac_c k.before (.slice Akbr k.before.rows.length Ckbr) ww (hf _ m2) (by first | assumption | omega) w.heap.size hw) ?_
 rintro ⟨v2a,v2c⟩
 refine bH [1,2,3] ⟨[(1,.p 0 0),(2,.p 1 0),(3,.p 2 0)],[⟨27,ce k (.slice Aknr k.now.rows.length Cknr) (.slice Akbr k.before.rows.length Ckbr)⟩,⟨43,[iI 0,.bool false,.int .u64 0,.int .u64 0,.slice none 0 0,.bool false,.int .u64 0,.int .u64 0,.slice none 0 0,.bool false]⟩,⟨43,ce { k with two := false } (.slice v1a k.now.rows.length v1c) (.slice v2a k.before.rows.length v2c)⟩],[],[bQ w.heap.size (.slice v2a k.before.rows.length v2c) 2 (k.before.rows.map a6),bQ w.heap.size (.slice v1a k.now.rows.length v1c) 2 (k.now.rows.map a6),ag (.slice Aknr k.now.rows.length Cknr) 2 (k.now.rows.map a6),ag (.slice Akbr k.before.rows.length Ckbr) 2 (k.before.rows.map a6)]⟩ <| kQ <| bH [2,3] ⟨[(2,.p 1 0),(3,.p 2 0)],[⟨27,ce k (.slice Aknr k.now.rows.length Cknr) (.slice Akbr k.before.rows.length Ckbr)⟩,⟨43,[iI 0,.bool false,.int .u64 0,.int .u64 0,.slice none 0 0,.bool false,.int .u64 0,.int .u64 0,.slice none 0 0,.bool false]⟩,⟨43,ce k (.slice v1a k.now.rows.length v1c) (.slice v2a k.before.rows.length v2c)⟩],[],[bQ w.heap.size (.slice v2a k.before.rows.length v2c) 2 (k.before.rows.map a6),bQ w.heap.size (.slice v1a k.now.rows.length v1c) 2 (k.now.rows.map a6),ag (.slice Aknr k.now.rows.length Cknr) 2 (k.now.rows.map a6),ag (.slice Akbr k.before.rows.length Ckbr) 2 (k.before.rows.map a6)]⟩ <| kQ <| bH [2] ⟨[(2,.p 1 0)],[⟨27,ce k (.slice Aknr k.now.rows.length Cknr) (.slice Akbr k.before.rows.length Ckbr)⟩,⟨43,ce k (.slice v1a k.now.rows.length v1c) (.slice v2a k.before.rows.length v2c)⟩,⟨43,ce k (.slice v1a k.now.rows.length v1c) (.slice v2a k.before.rows.length v2c)⟩],[],[bQ w.heap.size (.slice v2a k.before.rows.length v2c) 2 (k.before.rows.map a6),bQ w.heap.size (.slice v1a k.now.rows.length v1c) 2 (k.now.rows.map a6),ag (.slice Aknr k.now.rows.length Cknr) 2 (k.now.rows.map a6),ag (.slice Akbr k.before.rows.length Ckbr) 2 (k.before.rows.map a6)]⟩ ?_
 refine kR ?_
 exact ⟨[.agg (ce k (.slice v1a k.now.rows.length v1c) (.slice v2a k.before.rows.length v2c)).toArray],by kernel_rfl,fun w' hb hf ha => by exact xo2 ((v1a,v1c),(v2a,v2c)) rfl rfl (pO (hf _ m1) hB) (pO (hf _ m0) hB) (Apart.sub2 ha (i := 1) (j := 0) rfl rfl (by decide) rfl (fun b h => h) (fun b h => h)) hb⟩
inductive SubL : List Fact → List Fact → Prop
 | nil : SubL [] []
 | cons {f g : Fact} {l k : List Fact} : (∀ b,f.blk b → g.blk b) → SubL l k → SubL (f :: l) (g :: k)
theorem apart_subL {fs gs gs' : List Fact} (h : Apart fs) (m : List Nat) (hp : pickF fs m = some gs) (hm : nodupB m = true) (ho : ∀ g ∈ gs, g.own = true) (hb : SubL gs' gs) : Apart gs' := by
 have h0 := apart_iff.1 (h.pickN m hm hp)
 rw [apart_iff]
 clear hp h
 induction hb with
 | nil => exact List.Pairwise.nil
 | @cons g' g l' l hg hl ih =>
   obtain ⟨h1,h2⟩ := List.pairwise_cons.1 h0
   refine List.pairwise_cons.2 ⟨fun z hz => ?_,ih (fun x hx => ho x (List.mem_cons_of_mem _ hx)) h2⟩
   obtain ⟨z',hz',hzz⟩ : ∃ z' ∈ l,∀ b,z.blk b → z'.blk b := by
     clear h0 h1 h2 ih ho
     induction hl with
     | nil => cases hz
     | cons h1 h2 ih2 =>
       rcases List.mem_cons.1 hz with rfl | hz
       · exact ⟨_,List.mem_cons_self ..,h1⟩
       · obtain ⟨z',a,b⟩ := ih2 hz
         exact ⟨z',List.mem_cons_of_mem _ a,b⟩
   exact ⟨fun _ b hb hb' => (h1 z' hz').1 (ho g (List.mem_cons_self ..)) b (hg b hb) (hzz b hb'),fun _ b hb hb' => (h1 z' hz').2 (ho z' (List.mem_cons_of_mem _ hz')) b (hzz b hb) (hg b hb')⟩
theorem ytoDoor_c (d : Dor) (d_keys_now_rowsV : Value) (d_keys_before_rowsV : Value) (d_halvesV : Value) (d_table_connsV : Value) (d_table_waitingV : Value) (w : World) (hl_d_keys_now_rowsV : Sl w d_keys_now_rowsV 2 (d.keys.now.rows.map a6)) (hl_d_keys_before_rowsV : Sl w d_keys_before_rowsV 2 (d.keys.before.rows.map a6)) (hl_d_halvesV : Sl w d_halvesV 13 (d.halves.map av)) (hl_d_table_connsV : Sl w d_table_connsV 25 (d.table.conns.map aQ)) (hh_d_table_connsV : ∀ x ∈ d.table.conns, Sl w x.2 2 (x.1.r.held.map pC)) (hl_d_table_waitingV : Sl w d_table_waitingV 3 (d.table.waiting.map ay)) (hrn : d.keys.now.rows.length ≤ 1048576) (hrb : d.keys.before.rows.length ≤ 1048576) (hhl : d.halves.length ≤ 1048576) (hfit : ∀ x ∈ d.table.conns, cX x.1) (hln : d.table.conns.length ≤ 1048576) (hlw : d.table.waiting.length ≤ 1048576) (B : Nat) (hB : B ≤ w.heap.size) : Calls Try.prog 8 #[.agg (bT d d_keys_now_rowsV d_keys_before_rowsV d_halvesV d_table_connsV d_table_waitingV).toArray] w fun e w' => XRs w w' e (α := {cs : List CV // pl cs = pl d.table.conns} × (Option Addr × Nat) × (Option Addr × Nat) × (Option Addr × Nat) × (Option Addr × Nat) × (Option Addr × Nat)) (fun y => .agg (bT { d with table := { d.table with conns := y.1.1 } } (.slice y.2.1.1 d.keys.now.rows.length y.2.1.2) (.slice y.2.2.1.1 d.keys.before.rows.length y.2.2.1.2) (.slice y.2.2.2.1.1 d.halves.length y.2.2.2.1.2) (.slice y.2.2.2.2.1.1 y.1.1.length y.2.2.2.2.1.2) (.slice y.2.2.2.2.2.1 d.table.waiting.length y.2.2.2.2.2.2)).toArray) (fun y => [bQ B (.slice y.2.1.1 d.keys.now.rows.length y.2.1.2) 2 (d.keys.now.rows.map a6), bQ B (.slice y.2.2.1.1 d.keys.before.rows.length y.2.2.1.2) 2 (d.keys.before.rows.map a6), bQ B (.slice y.2.2.2.1.1 d.halves.length y.2.2.2.1.2) 13 (d.halves.map av), bU B 108 25 (.slice y.2.2.2.2.1.1 y.1.1.length y.2.2.2.2.1.2) (y.1.1.map aQ), bp B y.1.1, bQ B (.slice y.2.2.2.2.2.1 d.table.waiting.length y.2.2.2.2.2.2) 3 (d.table.waiting.map ay)]) := by
 obtain ⟨Adknr,Cdknr,hvdknr⟩ := hl_d_keys_now_rowsV.form
 rw [List.length_map] at hvdknr; subst hvdknr
 have hndknr := hl_d_keys_now_rowsV.len; rw [List.length_map] at hndknr
 have hqdknr := Sl.capLe hl_d_keys_now_rowsV
 obtain ⟨Adkbr,Cdkbr,hvdkbr⟩ := hl_d_keys_before_rowsV.form
 rw [List.length_map] at hvdkbr; subst hvdkbr
 have hndkbr := hl_d_keys_before_rowsV.len; rw [List.length_map] at hndkbr
 have hqdkbr := Sl.capLe hl_d_keys_before_rowsV
 obtain ⟨Adh,Cdh,hvdh⟩ := hl_d_halvesV.form
 rw [List.length_map] at hvdh; subst hvdh
 have hndh := hl_d_halvesV.len; rw [List.length_map] at hndh
 have hqdh := Sl.capLe hl_d_halvesV
 obtain ⟨Adtc,Cdtc,hvdtc⟩ := hl_d_table_connsV.form
 rw [List.length_map] at hvdtc; subst hvdtc
 have hndtc := hl_d_table_connsV.len; rw [List.length_map] at hndtc
 have hqdtc := Sl.capLe hl_d_table_connsV
 obtain ⟨Adtw,Cdtw,hvdtw⟩ := hl_d_table_waitingV.form
 rw [List.length_map] at hvdtw; subst hvdtw
 have hndtw := hl_d_table_waitingV.len; rw [List.length_map] at hndtw
 have hqdtw := Sl.capLe hl_d_table_waitingV
 refine x_callsA (args := [.agg (bT d (.slice Adknr d.keys.now.rows.length Cdknr) (.slice Adkbr d.keys.before.rows.length Cdkbr) (.slice Adh d.halves.length Cdh) (.slice Adtc d.table.conns.length Cdtc) (.slice Adtw d.table.waiting.length Cdtw)).toArray]) (fn := Try.f8) [ag (.slice Adknr d.keys.now.rows.length Cdknr) 2 (d.keys.now.rows.map a6),ag (.slice Adkbr d.keys.before.rows.length Cdkbr) 2 (d.keys.before.rows.map a6),ag (.slice Adh d.halves.length Cdh) 13 (d.halves.map av),ag (.slice Adtc d.table.conns.length Cdtc) 25 (d.table.conns.map aQ),bJ d.table.conns,ag (.slice Adtw d.table.waiting.length Cdtw) 3 (d.table.waiting.map ay)] Try.func8 rfl Try.ntmps8 rfl (by simp only [List.mem_cons,List.not_mem_nil,or_false,forall_eq_or_imp,forall_eq]; exact ⟨⟨rfl,hl_d_keys_now_rowsV⟩,⟨rfl,hl_d_keys_before_rowsV⟩,⟨rfl,hl_d_halvesV⟩,⟨rfl,hl_d_table_connsV⟩,⟨rfl,hh_d_table_connsV⟩,⟨rfl,hl_d_table_waitingV⟩⟩) ?_
 refine kQ <| bH [1,2] ⟨[(1,.p 0 0),(2,.p 1 0)],[⟨36,bT d (.slice Adknr d.keys.now.rows.length Cdknr) (.slice Adkbr d.keys.before.rows.length Cdkbr) (.slice Adh d.halves.length Cdh) (.slice Adtc d.table.conns.length Cdtc) (.slice Adtw d.table.waiting.length Cdtw)⟩,⟨51,[iI 0,iI 0,iI 0,.bool false,.int .u64 0,.int .u64 0,.slice none 0 0,.bool false,.int .u64 0,.int .u64 0,.slice none 0 0,.bool false,iI 0,iI 0,iI 0,iI 0,.slice none 0 0,.slice none 0 0,.slice none 0 0,iI 0]⟩],[],[ag (.slice Adknr d.keys.now.rows.length Cdknr) 2 (d.keys.now.rows.map a6),ag (.slice Adkbr d.keys.before.rows.length Cdkbr) 2 (d.keys.before.rows.map a6),ag (.slice Adh d.halves.length Cdh) 13 (d.halves.map av),ag (.slice Adtc d.table.conns.length Cdtc) 25 (d.table.conns.map aQ),bJ d.table.conns,ag (.slice Adtw d.table.waiting.length Cdtw) 3 (d.table.waiting.map ay)]⟩ <| kQ <| kEA [1,2,3] [(3,.p 2 0)] [⟨51,[iI 0,iI 0,iI 0,.bool false,.int .u64 0,.int .u64 0,.slice none 0 0,.bool false,.int .u64 0,.int .u64 0,.slice none 0 0,.bool false,iI 0,iI 0,iI 0,iI 0,.slice none 0 0,.slice none 0 0,.slice none 0 0,iI 0]⟩] ?_
 refine kQ <| kEU [1,2,3] [] 2 ⟨51,[iI d.port,iI 0,iI 0,.bool false,.int .u64 0,.int .u64 0,.slice none 0 0,.bool false,.int .u64 0,.int .u64 0,.slice none 0 0,.bool false,iI 0,iI 0,iI 0,iI 0,.slice none 0 0,.slice none 0 0,.slice none 0 0,iI 0]⟩ <| kQ <| kEU [1,2,3] [] 2 ⟨51,[iI d.port,iI d.clock,iI 0,.bool false,.int .u64 0,.int .u64 0,.slice none 0 0,.bool false,.int .u64 0,.int .u64 0,.slice none 0 0,.bool false,iI 0,iI 0,iI 0,iI 0,.slice none 0 0,.slice none 0 0,.slice none 0 0,iI 0]⟩ ?_
 refine kQ <| ci 2 [1,2,3,11] [(11,.v (.agg (ce d.keys (.slice Adknr d.keys.now.rows.length Cdknr) (.slice Adkbr d.keys.before.rows.length Cdkbr)).toArray))] 24 [.agg (ce d.keys (.slice Adknr d.keys.now.rows.length Cdknr) (.slice Adkbr d.keys.before.rows.length Cdkbr)).toArray] (some 12) rfl (xc_r fun ww hw hf => ytoKeys_c d.keys (.slice Adknr d.keys.now.rows.length Cdknr) (.slice Adkbr d.keys.before.rows.length Cdkbr) ww (hf _ m0) (hf _ m1) (by first | assumption | omega) (by first | assumption | omega) w.heap.size hw) ?_
 rintro ⟨⟨v1a,v1c⟩,⟨v2a,v2c⟩⟩
 refine kEU [1,2,3] [] 2 ⟨51,[iI d.port,iI d.clock,iI d.keys.epoch,.bool d.keys.now.use,.int .u64 d.keys.now.k,.int .u64 d.keys.now.l,.slice v1a d.keys.now.rows.length v1c,.bool d.keys.before.use,.int .u64 d.keys.before.k,.int .u64 d.keys.before.l,.slice v2a d.keys.before.rows.length v2c,.bool d.keys.two,iI 0,iI 0,iI 0,iI 0,.slice none 0 0,.slice none 0 0,.slice none 0 0,iI 0]⟩ <| kQ <| ci 2 [1,2,3,15] [(15,.v (.agg (cW d.lim).toArray))] 25 [.agg (cW d.lim).toArray] (some 16) rfl (ai fun ww hf => ytoLimits_c d.lim ww ) ?_
 intro _
 refine kEU [1,2,3] [] 2 ⟨51,bT { d with halves := [],table := ⟨[],[]⟩,chal := 0 } (.slice v1a d.keys.now.rows.length v1c) (.slice v2a d.keys.before.rows.length v2c) (.slice none 0 0) (.slice none 0 0) (.slice none 0 0)⟩ <| kQ <| ci 2 [1,2,3,19] [(19,.v (.slice Adh d.halves.length Cdh))] 26 [.slice Adh d.halves.length Cdh] (some 20) rfl (xc_on (m := d.halves.length) (F := fun v' => v') (List.length_map ..) fun ww hf => toHalfS_c (.slice Adh d.halves.length Cdh) d.halves ww (hf _ m4) (by omega)) ?_
 rintro ⟨v3a,v3c⟩
 refine kEU [1,2,3] [] 2 ⟨51,bT { d with table := ⟨[],[]⟩,chal := 0 } (.slice v1a d.keys.now.rows.length v1c) (.slice v2a d.keys.before.rows.length v2c) (.slice v3a d.halves.length v3c) (.slice none 0 0) (.slice none 0 0)⟩ <| kQ <| ci 2 [1,2,3,23] [(23,.v (.agg (tabL d.table (.slice Adtc d.table.conns.length Cdtc) (.slice Adtw d.table.waiting.length Cdtw)).toArray))] 27 [.agg (tabL d.table (.slice Adtc d.table.conns.length Cdtc) (.slice Adtw d.table.waiting.length Cdtw)).toArray] (some 24) rfl (xc_r fun ww hw hf => ytoTable_c d.table (.slice Adtc d.table.conns.length Cdtc) (.slice Adtw d.table.waiting.length Cdtw) ww (hf _ m6) (hf _ m7) (hf (ag (.slice Adtw d.table.waiting.length Cdtw) 3 (d.table.waiting.map ay)) (by simp)) (by assumption) (by omega) (by omega) w.heap.size hw) ?_
 rintro ⟨⟨t4l,ht4l⟩,⟨t4a,t4c⟩,⟨t4d,t4e⟩⟩
 dsimp only
 have hfit_t4l : ∀ x ∈ t4l,cX x.1 := conFit_pl ht4l (by assumption)
 have hlen_t4l := pl_len ht4l
 refine bH [1,2,3] ⟨[(1,.p 0 0),(2,.p 1 0),(3,.p 2 0)],[⟨36,bT d (.slice Adknr d.keys.now.rows.length Cdknr) (.slice Adkbr d.keys.before.rows.length Cdkbr) (.slice Adh d.halves.length Cdh) (.slice Adtc d.table.conns.length Cdtc) (.slice Adtw d.table.waiting.length Cdtw)⟩,⟨51,[iI 0,iI 0,iI 0,.bool false,.int .u64 0,.int .u64 0,.slice none 0 0,.bool false,.int .u64 0,.int .u64 0,.slice none 0 0,.bool false,iI 0,iI 0,iI 0,iI 0,.slice none 0 0,.slice none 0 0,.slice none 0 0,iI 0]⟩,⟨51,bT { d with table := { d.table with conns := t4l },chal := 0 } (.slice v1a d.keys.now.rows.length v1c) (.slice v2a d.keys.before.rows.length v2c) (.slice v3a d.halves.length v3c) (.slice t4a t4l.length t4c) (.slice t4d d.table.waiting.length t4e)⟩],[],[bU w.heap.size 108 25 (.slice t4a t4l.length t4c) (t4l.map aQ),bp w.heap.size t4l,bQ w.heap.size (.slice t4d d.table.waiting.length t4e) 3 (d.table.waiting.map ay),bQ w.heap.size (.slice v3a d.halves.length v3c) 13 (d.halves.map av),bQ w.heap.size (.slice v1a d.keys.now.rows.length v1c) 2 (d.keys.now.rows.map a6),bQ w.heap.size (.slice v2a d.keys.before.rows.length v2c) 2 (d.keys.before.rows.map a6),ag (.slice Adknr d.keys.now.rows.length Cdknr) 2 (d.keys.now.rows.map a6),ag (.slice Adkbr d.keys.before.rows.length Cdkbr) 2 (d.keys.before.rows.map a6),ag (.slice Adh d.halves.length Cdh) 13 (d.halves.map av),ag (.slice Adtc d.table.conns.length Cdtc) 25 (d.table.conns.map aQ),bJ d.table.conns,ag (.slice Adtw d.table.waiting.length Cdtw) 3 (d.table.waiting.map ay)]⟩ <| kQ <| kEU [2,3] [] 2 ⟨51,bT { d with table := { d.table with conns := t4l } } (.slice v1a d.keys.now.rows.length v1c) (.slice v2a d.keys.before.rows.length v2c) (.slice v3a d.halves.length v3c) (.slice t4a t4l.length t4c) (.slice t4d d.table.waiting.length t4e)⟩ <| kQ <| kEU [2] [(2,.p 1 0)] 1 ⟨51,bT { d with table := { d.table with conns := t4l } } (.slice v1a d.keys.now.rows.length v1c) (.slice v2a d.keys.before.rows.length v2c) (.slice v3a d.halves.length v3c) (.slice t4a t4l.length t4c) (.slice t4d d.table.waiting.length t4e)⟩ ?_
 refine kR ?_
 exact ⟨[.agg (bT { d with table := { d.table with conns := t4l } } (.slice v1a d.keys.now.rows.length v1c) (.slice v2a d.keys.before.rows.length v2c) (.slice v3a d.halves.length v3c) (.slice t4a t4l.length t4c) (.slice t4d d.table.waiting.length t4e)).toArray],by kernel_rfl,fun w' hb hf ha => ⟨(⟨t4l,ht4l⟩,(v1a,v1c),(v2a,v2c),(v3a,v3c),(t4a,t4c),(t4d,t4e)),rfl,(by simp only [List.mem_cons,List.not_mem_nil,or_false,forall_eq_or_imp,forall_eq]; exact ⟨pO (hf _ m4) hB,pO (hf _ m5) hB,pO (hf _ m3) hB,pW (hf _ m0) hB,pH (hf _ m1) hB,pO (hf _ m2) hB⟩),apart_subL ha [4,5,3,0,1,2] rfl (by decide) (by simp only [List.mem_cons,List.not_mem_nil,or_false,forall_eq_or_imp,forall_eq]; exact ⟨rfl,rfl,rfl,rfl,rfl,rfl⟩) (.cons (fun b h => h) (.cons (fun b h => h) (.cons (fun b h => h) (.cons (fun b h => h) (.cons (fun b h => hownF_blk h) (.cons (fun b h => h) .nil)))))),hb⟩⟩
theorem yeqMac_c (m : Mac) (p_rowsV : Value) (q_rowsV : Value) (w : World) (hl_p_rowsV : Sl w p_rowsV 2 (m.rows.map a6)) (hl_q_rowsV : Sl w q_rowsV 2 (m.rows.map a6)) : Calls Try.prog 70 #[.agg #[.bool m.use, .int .u64 m.k, .int .u64 m.l, p_rowsV], .agg #[.bool m.use, .int .u64 m.k, .int .u64 m.l, q_rowsV]] w fun e w' => e = .returned (.bool true) ∧ Below w.heap.size w w' := by
 obtain ⟨Apr,Cpr,hvpr⟩ := hl_p_rowsV.form
 rw [List.length_map] at hvpr; subst hvpr
 have hnpr := hl_p_rowsV.len; rw [List.length_map] at hnpr
 have hqpr := Sl.capLe hl_p_rowsV
 obtain ⟨Aqr,Cqr,hvqr⟩ := hl_q_rowsV.form
 rw [List.length_map] at hvqr; subst hvqr
 have hnqr := hl_q_rowsV.len; rw [List.length_map] at hnqr
 have hqqr := Sl.capLe hl_q_rowsV
 refine aq (args := [.agg (b8 m (.slice Apr m.rows.length Cpr)).toArray,.agg (b8 m (.slice Aqr m.rows.length Cqr)).toArray]) (fn := Try.f70) [ag (.slice Apr m.rows.length Cpr) 2 (m.rows.map a6),ag (.slice Aqr m.rows.length Cqr) 2 (m.rows.map a6)] Try.func70 rfl Try.ntmps70 rfl (by simp only [List.mem_cons,List.not_mem_nil,or_false,forall_eq_or_imp,forall_eq]; exact ⟨⟨rfl,hl_p_rowsV⟩,⟨rfl,hl_q_rowsV⟩⟩) ?_
 refine kQ <| bH [2,3] ⟨[(2,.p 0 0),(3,.p 1 0)],[⟨41,b8 m (.slice Apr m.rows.length Cpr)⟩,⟨41,b8 m (.slice Aqr m.rows.length Cqr)⟩],[],[ag (.slice Apr m.rows.length Cpr) 2 (m.rows.map a6),ag (.slice Aqr m.rows.length Cqr) 2 (m.rows.map a6)]⟩ <| kS <| kQ <| aH [2,3,9] [(9,aB (!(m.use == m.use)))] ?_
 refine kC (!(m.use == m.use)) (fun h1 => ?_) (fun h1 => ?_)
 have h1n := cR h1
 simp at h1n
 have h1n := cV h1
 have h1np := eqT h1n
 refine kK <| kS <| kQ <| aH [2,3,14] [(14,aB (m.k != m.k))] ?_
 refine kC (m.k != m.k) (fun h2 => ?_) (fun h2 => ?_)
 simp at h2
 have h2p := neF h2
 refine kK <| kS <| kQ <| aH [2,3,19] [(19,aB (m.l != m.l))] ?_
 refine kC (m.l != m.l) (fun h3 => ?_) (fun h3 => ?_)
 simp at h3
 have h3p := neF h3
 refine kK <| kS <| kQ <| kCS 4 [21,23] [(21,.v (.slice Apr m.rows.length Cpr)),(23,.v (.slice Aqr m.rows.length Cqr))] 104 [.slice Apr m.rows.length Cpr,.slice Aqr m.rows.length Cqr] (some 24) rfl (ai fun ww hf => eqMacRowS_c (.slice Apr m.rows.length Cpr) (.slice Aqr m.rows.length Cqr) m.rows ww (hf _ m0) (hf _ m1)) ?_
 intro _
 refine bZ [25] [(25,aB false)] <| kN <| kK <| kQ <| bZ [4] [(4,aB true)] ?_
 refine kR ?_
 exact ⟨[.bool true],by kernel_rfl,fun w' hb hf => ⟨rfl,hb⟩⟩
theorem yeqKeys_c (m : Kys) (p_now_rowsV : Value) (p_before_rowsV : Value) (q_now_rowsV : Value) (q_before_rowsV : Value) (w : World) (hl_p_now_rowsV : Sl w p_now_rowsV 2 (m.now.rows.map a6)) (hl_p_before_rowsV : Sl w p_before_rowsV 2 (m.before.rows.map a6)) (hl_q_now_rowsV : Sl w q_now_rowsV 2 (m.now.rows.map a6)) (hl_q_before_rowsV : Sl w q_before_rowsV 2 (m.before.rows.map a6)) : Calls Try.prog 31 #[.agg #[iI m.epoch, .bool m.now.use, .int .u64 m.now.k, .int .u64 m.now.l, p_now_rowsV, .bool m.before.use, .int .u64 m.before.k, .int .u64 m.before.l, p_before_rowsV, .bool m.two], .agg #[iI m.epoch, .bool m.now.use, .int .u64 m.now.k, .int .u64 m.now.l, q_now_rowsV, .bool m.before.use, .int .u64 m.before.k, .int .u64 m.before.l, q_before_rowsV, .bool m.two]] w fun e w' => e = .returned (.bool true) ∧ Below w.heap.size w w' := by
 obtain ⟨Apnr,Cpnr,hvpnr⟩ := hl_p_now_rowsV.form
 rw [List.length_map] at hvpnr; subst hvpnr
 have hnpnr := hl_p_now_rowsV.len; rw [List.length_map] at hnpnr
 have hqpnr := Sl.capLe hl_p_now_rowsV
 obtain ⟨Apbr,Cpbr,hvpbr⟩ := hl_p_before_rowsV.form
 rw [List.length_map] at hvpbr; subst hvpbr
 have hnpbr := hl_p_before_rowsV.len; rw [List.length_map] at hnpbr
 have hqpbr := Sl.capLe hl_p_before_rowsV
 obtain ⟨Aqnr,Cqnr,hvqnr⟩ := hl_q_now_rowsV.form
 rw [List.length_map] at hvqnr; subst hvqnr
 have hnqnr := hl_q_now_rowsV.len; rw [List.length_map] at hnqnr
 have hqqnr := Sl.capLe hl_q_now_rowsV
 obtain ⟨Aqbr,Cqbr,hvqbr⟩ := hl_q_before_rowsV.form
 rw [List.length_map] at hvqbr; subst hvqbr
 have hnqbr := hl_q_before_rowsV.len; rw [List.length_map] at hnqbr
 have hqqbr := Sl.capLe hl_q_before_rowsV
 refine aq (args := [.agg (ce m (.slice Apnr m.now.rows.length Cpnr) (.slice Apbr m.before.rows.length Cpbr)).toArray,.agg (ce m (.slice Aqnr m.now.rows.length Cqnr) (.slice Aqbr m.before.rows.length Cqbr)).toArray]) (fn := Try.f31) [ag (.slice Apnr m.now.rows.length Cpnr) 2 (m.now.rows.map a6),ag (.slice Apbr m.before.rows.length Cpbr) 2 (m.before.rows.map a6),ag (.slice Aqnr m.now.rows.length Cqnr) 2 (m.now.rows.map a6),ag (.slice Aqbr m.before.rows.length Cqbr) 2 (m.before.rows.map a6)] Try.func31 rfl Try.ntmps31 rfl (by simp only [List.mem_cons,List.not_mem_nil,or_false,forall_eq_or_imp,forall_eq]; exact ⟨⟨rfl,hl_p_now_rowsV⟩,⟨rfl,hl_p_before_rowsV⟩,⟨rfl,hl_q_now_rowsV⟩,⟨rfl,hl_q_before_rowsV⟩⟩) ?_
 refine kQ <| bH [2,3] ⟨[(2,.p 0 0),(3,.p 1 0)],[⟨43,ce m (.slice Apnr m.now.rows.length Cpnr) (.slice Apbr m.before.rows.length Cpbr)⟩,⟨43,ce m (.slice Aqnr m.now.rows.length Cqnr) (.slice Aqbr m.before.rows.length Cqbr)⟩],[],[ag (.slice Apnr m.now.rows.length Cpnr) 2 (m.now.rows.map a6),ag (.slice Apbr m.before.rows.length Cpbr) 2 (m.before.rows.map a6),ag (.slice Aqnr m.now.rows.length Cqnr) 2 (m.now.rows.map a6),ag (.slice Aqbr m.before.rows.length Cqbr) 2 (m.before.rows.map a6)]⟩ <| kS <| kQ <| aH [2,3,9] [(9,aB (m.epoch != m.epoch))] ?_
 refine kC (m.epoch != m.epoch) (fun h1 => ?_) (fun h1 => ?_)
 simp at h1
 have h1p := neF h1
 refine kK <| kS <| kQ <| ci 4 [2,3,11,13] [(11,.v (.agg (b8 m.now (.slice Apnr m.now.rows.length Cpnr)).toArray)),(13,.v (.agg (b8 m.now (.slice Aqnr m.now.rows.length Cqnr)).toArray))] 70 [.agg (b8 m.now (.slice Apnr m.now.rows.length Cpnr)).toArray,.agg (b8 m.now (.slice Aqnr m.now.rows.length Cqnr)).toArray] (some 14) rfl (ai fun ww hf => yeqMac_c m.now (.slice Apnr m.now.rows.length Cpnr) (.slice Aqnr m.now.rows.length Cqnr) ww (hf _ m0) (hf _ m2)) ?_
 intro _
 refine aH [2,3,15] [(15,aB false)] <| kN <| kK <| kS <| kQ <| ci 4 [2,3,17,19] [(17,.v (.agg (b8 m.before (.slice Apbr m.before.rows.length Cpbr)).toArray)),(19,.v (.agg (b8 m.before (.slice Aqbr m.before.rows.length Cqbr)).toArray))] 70 [.agg (b8 m.before (.slice Apbr m.before.rows.length Cpbr)).toArray,.agg (b8 m.before (.slice Aqbr m.before.rows.length Cqbr)).toArray] (some 20) rfl (ai fun ww hf => yeqMac_c m.before (.slice Apbr m.before.rows.length Cpbr) (.slice Aqbr m.before.rows.length Cqbr) ww (hf _ m1) (hf _ m3)) ?_
 intro _
 refine aH [2,3,21] [(21,aB false)] <| kN <| kK <| kS <| kQ <| bZ [26] [(26,aB (!(m.two == m.two)))] ?_
 refine kC (!(m.two == m.two)) (fun h2 => ?_) (fun h2 => ?_)
 have h2n := cR h2
 simp at h2n
 have h2n := cV h2
 have h2np := eqT h2n
 refine kK <| kQ <| bZ [4] [(4,aB true)] <| kR ?_
 exact ⟨[.bool true],by kernel_rfl,fun w' hb hf => ⟨rfl,hb⟩⟩
theorem yeqLimits_c (a : Lim) (w : World)  : Calls Try.prog 32 #[.agg (cW a).toArray, .agg (cW a).toArray] w fun e w' => e = .returned (.bool true) ∧ Below w.heap.size w w' := by
 refine aq (args := [.agg (cW a).toArray,.agg (cW a).toArray]) (fn := Try.f32) [] Try.func32 rfl Try.ntmps32 rfl (by simp) ?_
 refine kQ <| bH [2,3] ⟨[(2,.p 0 0),(3,.p 1 0)],[⟨44,cW a⟩,⟨44,cW a⟩],[],[]⟩ <| kS <| kQ <| aH [2,3,9] [(9,aB (a.halves != a.halves))] ?_
 refine kC (a.halves != a.halves) (fun h1 => ?_) (fun h1 => ?_)
 simp at h1
 have h1p := neF h1
 refine kK <| kS <| kQ <| aH [2,3,14] [(14,aB (a.waiting != a.waiting))] ?_
 refine kC (a.waiting != a.waiting) (fun h2 => ?_) (fun h2 => ?_)
 simp at h2
 have h2p := neF h2
 refine kK <| kS <| kQ <| aH [2,3,19] [(19,aB (a.conns != a.conns))] ?_
 refine kC (a.conns != a.conns) (fun h3 => ?_) (fun h3 => ?_)
 simp at h3
 have h3p := neF h3
 refine kK <| kS <| kQ <| bZ [24] [(24,aB (a.chal != a.chal))] ?_
 refine kC (a.chal != a.chal) (fun h4 => ?_) (fun h4 => ?_)
 simp at h4
 have h4p := neF h4
 refine kK <| kQ <| bZ [4] [(4,aB true)] <| kR ?_
 exact ⟨[.bool true],by kernel_rfl,fun w' hb hf => ⟨rfl,hb⟩⟩
theorem yeqDoor_c (m : Dor) (a : List CV) (p_keys_now_rowsV : Value) (p_keys_before_rowsV : Value) (p_halvesV : Value) (p_table_connsV : Value) (p_table_waitingV : Value) (b : List CV) (q_keys_now_rowsV : Value) (q_keys_before_rowsV : Value) (q_halvesV : Value) (q_table_connsV : Value) (q_table_waitingV : Value) (w : World) (hl_p_keys_now_rowsV : Sl w p_keys_now_rowsV 2 (m.keys.now.rows.map a6)) (hl_p_keys_before_rowsV : Sl w p_keys_before_rowsV 2 (m.keys.before.rows.map a6)) (hl_p_halvesV : Sl w p_halvesV 13 (m.halves.map av)) (hl_p_table_connsV : Sl w p_table_connsV 25 (a.map aQ)) (hh_p_table_connsV : ∀ x ∈ a, Sl w x.2 2 (x.1.r.held.map pC)) (hl_p_table_waitingV : Sl w p_table_waitingV 3 (m.table.waiting.map ay)) (hl_q_keys_now_rowsV : Sl w q_keys_now_rowsV 2 (m.keys.now.rows.map a6)) (hl_q_keys_before_rowsV : Sl w q_keys_before_rowsV 2 (m.keys.before.rows.map a6)) (hl_q_halvesV : Sl w q_halvesV 13 (m.halves.map av)) (hl_q_table_connsV : Sl w q_table_connsV 25 (b.map aQ)) (hh_q_table_connsV : ∀ x ∈ b, Sl w x.2 2 (x.1.r.held.map pC)) (hl_q_table_waitingV : Sl w q_table_waitingV 3 (m.table.waiting.map ay)) (hpl : pl a = pl b) : Calls Try.prog 10 #[.agg #[iI m.port, iI m.clock, iI m.keys.epoch, .bool m.keys.now.use, .int .u64 m.keys.now.k, .int .u64 m.keys.now.l, p_keys_now_rowsV, .bool m.keys.before.use, .int .u64 m.keys.before.k, .int .u64 m.keys.before.l, p_keys_before_rowsV, .bool m.keys.two, iI m.lim.halves, iI m.lim.waiting, iI m.lim.conns, iI m.lim.chal, p_halvesV, p_table_connsV, p_table_waitingV, iI m.chal], .agg #[iI m.port, iI m.clock, iI m.keys.epoch, .bool m.keys.now.use, .int .u64 m.keys.now.k, .int .u64 m.keys.now.l, q_keys_now_rowsV, .bool m.keys.before.use, .int .u64 m.keys.before.k, .int .u64 m.keys.before.l, q_keys_before_rowsV, .bool m.keys.two, iI m.lim.halves, iI m.lim.waiting, iI m.lim.conns, iI m.lim.chal, q_halvesV, q_table_connsV, q_table_waitingV, iI m.chal]] w fun e w' => e = .returned (.bool true) ∧ Below w.heap.size w w' := by
 obtain ⟨Apknr,Cpknr,hvpknr⟩ := hl_p_keys_now_rowsV.form
 rw [List.length_map] at hvpknr; subst hvpknr
 have hnpknr := hl_p_keys_now_rowsV.len; rw [List.length_map] at hnpknr
 have hqpknr := Sl.capLe hl_p_keys_now_rowsV
 obtain ⟨Apkbr,Cpkbr,hvpkbr⟩ := hl_p_keys_before_rowsV.form
 rw [List.length_map] at hvpkbr; subst hvpkbr
 have hnpkbr := hl_p_keys_before_rowsV.len; rw [List.length_map] at hnpkbr
 have hqpkbr := Sl.capLe hl_p_keys_before_rowsV
 obtain ⟨Aph,Cph,hvph⟩ := hl_p_halvesV.form
 rw [List.length_map] at hvph; subst hvph
 have hnph := hl_p_halvesV.len; rw [List.length_map] at hnph
 have hqph := Sl.capLe hl_p_halvesV
 obtain ⟨Aptc,Cptc,hvptc⟩ := hl_p_table_connsV.form
 rw [List.length_map] at hvptc; subst hvptc
 have hnptc := hl_p_table_connsV.len; rw [List.length_map] at hnptc
 have hqptc := Sl.capLe hl_p_table_connsV
 obtain ⟨Aptw,Cptw,hvptw⟩ := hl_p_table_waitingV.form
 rw [List.length_map] at hvptw; subst hvptw
 have hnptw := hl_p_table_waitingV.len; rw [List.length_map] at hnptw
 have hqptw := Sl.capLe hl_p_table_waitingV
 obtain ⟨Aqknr,Cqknr,hvqknr⟩ := hl_q_keys_now_rowsV.form
 rw [List.length_map] at hvqknr; subst hvqknr
 have hnqknr := hl_q_keys_now_rowsV.len; rw [List.length_map] at hnqknr
 have hqqknr := Sl.capLe hl_q_keys_now_rowsV
 obtain ⟨Aqkbr,Cqkbr,hvqkbr⟩ := hl_q_keys_before_rowsV.form
 rw [List.length_map] at hvqkbr; subst hvqkbr
 have hnqkbr := hl_q_keys_before_rowsV.len; rw [List.length_map] at hnqkbr
 have hqqkbr := Sl.capLe hl_q_keys_before_rowsV
 obtain ⟨Aqh,Cqh,hvqh⟩ := hl_q_halvesV.form
 rw [List.length_map] at hvqh; subst hvqh
 have hnqh := hl_q_halvesV.len; rw [List.length_map] at hnqh
 have hqqh := Sl.capLe hl_q_halvesV
 obtain ⟨Aqtc,Cqtc,hvqtc⟩ := hl_q_table_connsV.form
 rw [List.length_map] at hvqtc; subst hvqtc
 have hnqtc := hl_q_table_connsV.len; rw [List.length_map] at hnqtc
 have hqqtc := Sl.capLe hl_q_table_connsV
 obtain ⟨Aqtw,Cqtw,hvqtw⟩ := hl_q_table_waitingV.form
 rw [List.length_map] at hvqtw; subst hvqtw
 have hnqtw := hl_q_table_waitingV.len; rw [List.length_map] at hnqtw
 have hqqtw := Sl.capLe hl_q_table_waitingV
 refine aq (args := [.agg (bT { m with table := { m.table with conns := a } } (.slice Apknr m.keys.now.rows.length Cpknr) (.slice Apkbr m.keys.before.rows.length Cpkbr) (.slice Aph m.halves.length Cph) (.slice Aptc a.length Cptc) (.slice Aptw m.table.waiting.length Cptw)).toArray,.agg (bT { m with table := { m.table with conns := b } } (.slice Aqknr m.keys.now.rows.length Cqknr) (.slice Aqkbr m.keys.before.rows.length Cqkbr) (.slice Aqh m.halves.length Cqh) (.slice Aqtc b.length Cqtc) (.slice Aqtw m.table.waiting.length Cqtw)).toArray]) (fn := Try.f10) [ag (.slice Apknr m.keys.now.rows.length Cpknr) 2 (m.keys.now.rows.map a6),ag (.slice Apkbr m.keys.before.rows.length Cpkbr) 2 (m.keys.before.rows.map a6),ag (.slice Aph m.halves.length Cph) 13 (m.halves.map av),ag (.slice Aptc a.length Cptc) 25 (a.map aQ),bJ a,ag (.slice Aptw m.table.waiting.length Cptw) 3 (m.table.waiting.map ay),ag (.slice Aqknr m.keys.now.rows.length Cqknr) 2 (m.keys.now.rows.map a6),ag (.slice Aqkbr m.keys.before.rows.length Cqkbr) 2 (m.keys.before.rows.map a6),ag (.slice Aqh m.halves.length Cqh) 13 (m.halves.map av),ag (.slice Aqtc b.length Cqtc) 25 (b.map aQ),bJ b,ag (.slice Aqtw m.table.waiting.length Cqtw) 3 (m.table.waiting.map ay)] Try.func10 rfl Try.ntmps10 rfl (by simp only [List.mem_cons,List.not_mem_nil,or_false,forall_eq_or_imp,forall_eq]; exact ⟨⟨rfl,hl_p_keys_now_rowsV⟩,⟨rfl,hl_p_keys_before_rowsV⟩,⟨rfl,hl_p_halvesV⟩,⟨rfl,hl_p_table_connsV⟩,⟨rfl,hh_p_table_connsV⟩,⟨rfl,hl_p_table_waitingV⟩,⟨rfl,hl_q_keys_now_rowsV⟩,⟨rfl,hl_q_keys_before_rowsV⟩,⟨rfl,hl_q_halvesV⟩,⟨rfl,hl_q_table_connsV⟩,⟨rfl,hh_q_table_connsV⟩,⟨rfl,hl_q_table_waitingV⟩⟩) ?_
 refine kQ <| bH [2,3] ⟨[(2,.p 0 0),(3,.p 1 0)],[⟨51,bT { m with table := { m.table with conns := a } } (.slice Apknr m.keys.now.rows.length Cpknr) (.slice Apkbr m.keys.before.rows.length Cpkbr) (.slice Aph m.halves.length Cph) (.slice Aptc a.length Cptc) (.slice Aptw m.table.waiting.length Cptw)⟩,⟨51,bT { m with table := { m.table with conns := b } } (.slice Aqknr m.keys.now.rows.length Cqknr) (.slice Aqkbr m.keys.before.rows.length Cqkbr) (.slice Aqh m.halves.length Cqh) (.slice Aqtc b.length Cqtc) (.slice Aqtw m.table.waiting.length Cqtw)⟩],[],[ag (.slice Apknr m.keys.now.rows.length Cpknr) 2 (m.keys.now.rows.map a6),ag (.slice Apkbr m.keys.before.rows.length Cpkbr) 2 (m.keys.before.rows.map a6),ag (.slice Aph m.halves.length Cph) 13 (m.halves.map av),ag (.slice Aptc a.length Cptc) 25 (a.map aQ),bJ a,ag (.slice Aptw m.table.waiting.length Cptw) 3 (m.table.waiting.map ay),ag (.slice Aqknr m.keys.now.rows.length Cqknr) 2 (m.keys.now.rows.map a6),ag (.slice Aqkbr m.keys.before.rows.length Cqkbr) 2 (m.keys.before.rows.map a6),ag (.slice Aqh m.halves.length Cqh) 13 (m.halves.map av),ag (.slice Aqtc b.length Cqtc) 25 (b.map aQ),bJ b,ag (.slice Aqtw m.table.waiting.length Cqtw) 3 (m.table.waiting.map ay)]⟩ <| kS <| kQ <| aH [2,3,9] [(9,aB (m.port != m.port))] ?_
 refine kC (m.port != m.port) (fun h1 => ?_) (fun h1 => ?_)
 simp at h1
 have h1p := neF h1
 refine kK <| kS <| kQ <| aH [2,3,14] [(14,aB (m.clock != m.clock))] ?_
 refine kC (m.clock != m.clock) (fun h2 => ?_) (fun h2 => ?_)
 simp at h2
 have h2p := neF h2
 refine kK <| kS <| kQ <| ci 4 [2,3,16,18] [(16,.v (.agg (ce m.keys (.slice Apknr m.keys.now.rows.length Cpknr) (.slice Apkbr m.keys.before.rows.length Cpkbr)).toArray)),(18,.v (.agg (ce m.keys (.slice Aqknr m.keys.now.rows.length Cqknr) (.slice Aqkbr m.keys.before.rows.length Cqkbr)).toArray))] 31 [.agg (ce m.keys (.slice Apknr m.keys.now.rows.length Cpknr) (.slice Apkbr m.keys.before.rows.length Cpkbr)).toArray,.agg (ce m.keys (.slice Aqknr m.keys.now.rows.length Cqknr) (.slice Aqkbr m.keys.before.rows.length Cqkbr)).toArray] (some 19) rfl (ai fun ww hf => yeqKeys_c m.keys (.slice Apknr m.keys.now.rows.length Cpknr) (.slice Apkbr m.keys.before.rows.length Cpkbr) (.slice Aqknr m.keys.now.rows.length Cqknr) (.slice Aqkbr m.keys.before.rows.length Cqkbr) ww (hf _ m0) (hf _ m1) (hf _ m6) (hf _ m7)) ?_
 intro _
 refine aH [2,3,20] [(20,aB false)] <| kN <| kK <| kS <| kQ <| ci 4 [2,3,22,24] [(22,.v (.agg (cW m.lim).toArray)),(24,.v (.agg (cW m.lim).toArray))] 32 [.agg (cW m.lim).toArray,.agg (cW m.lim).toArray] (some 25) rfl (ai fun ww hf => yeqLimits_c m.lim ww) ?_
 intro _
 refine aH [2,3,26] [(26,aB false)] <| kN <| kK <| kS <| kQ <| ci 4 [2,3,28,30] [(28,.v (.slice Aph m.halves.length Cph)),(30,.v (.slice Aqh m.halves.length Cqh))] 33 [.slice Aph m.halves.length Cph,.slice Aqh m.halves.length Cqh] (some 31) rfl (ai fun ww hf => eqHalfS_c (.slice Aph m.halves.length Cph) (.slice Aqh m.halves.length Cqh) m.halves ww (hf _ m2) (hf (ag (.slice Aqh m.halves.length Cqh) 13 (m.halves.map av)) (by simp))) ?_
 intro _
 refine aH [2,3,32] [(32,aB false)] <| kN <| kK <| kS <| kQ <| ci 4 [2,3,34,36] [(34,.v (.agg (tabL { m.table with conns := a } (.slice Aptc a.length Cptc) (.slice Aptw m.table.waiting.length Cptw)).toArray)),(36,.v (.agg (tabL { m.table with conns := b } (.slice Aqtc b.length Cqtc) (.slice Aqtw m.table.waiting.length Cqtw)).toArray))] 34 [.agg (tabL { m.table with conns := a } (.slice Aptc a.length Cptc) (.slice Aptw m.table.waiting.length Cptw)).toArray,.agg (tabL { m.table with conns := b } (.slice Aqtc b.length Cqtc) (.slice Aqtw m.table.waiting.length Cqtw)).toArray] (some 37) rfl (ai fun ww hf => yeqTable_c a m.table.waiting (.slice Aptc a.length Cptc) (.slice Aptw m.table.waiting.length Cptw) b (.slice Aqtc b.length Cqtc) (.slice Aqtw m.table.waiting.length Cqtw) ww (hf _ m3) (hf _ m4) (hf _ m5) (hf (ag (.slice Aqtc b.length Cqtc) 25 (b.map aQ)) (by simp)) (hf (bJ b) (by simp)) (hf (ag (.slice Aqtw m.table.waiting.length Cqtw) 3 (m.table.waiting.map ay)) (by simp)) (by first | assumption | (simp only [hpl]; done))) ?_
 intro _
 refine aH [2,3,38] [(38,aB false)] <| kN <| kK <| kS <| kQ <| bZ [43] [(43,aB (m.chal != m.chal))] ?_
 refine kC (m.chal != m.chal) (fun h3 => ?_) (fun h3 => ?_)
 simp at h3
 have h3p := neF h3
 refine kK <| kQ <| bZ [4] [(4,aB true)] <| kR ?_
 exact ⟨[.bool true],by kernel_rfl,fun w' hb hf => ⟨rfl,hb⟩⟩
structure Sip where
 a : Int
 b : Int
 c : Int
 d : Int
def aX (x : Sip) : List Value := [.int .u64 x.a, .int .u64 x.b, .int .u64 x.c, .int .u64 x.d]
def or64 (x y : Int) : Int := IntKind.u64.wrap (BitVec.ofInt 64 x ||| BitVec.ofInt 64 y).toNat
def cI (x y : Int) : Int := IntKind.u64.wrap (BitVec.ofInt 64 x ^^^ BitVec.ofInt 64 y).toNat
def a5 (x n : Int) : Int := or64 (IntKind.u64.wrap (x * 2 ^ n.toNat)) (Int.fdiv x (2 ^ (IntKind.u64.wrap (64 - n)).toNat))
def a7 (s : Sip) : Sip :=
 let a1 := IntKind.u64.wrap (s.a + s.b)
 let b1 := cI (a5 s.b 13) a1
 let a2 := a5 a1 32
 let c1 := IntKind.u64.wrap (s.c + s.d)
 let d1 := cI (a5 s.d 16) c1
 let a3 := IntKind.u64.wrap (a2 + d1)
 let d2 := cI (a5 d1 21) a3
 let c2 := IntKind.u64.wrap (c1 + b1)
 let b2 := cI (a5 b1 17) c2
 ⟨a3,b2,a5 c2 32,d2⟩
def ca (k l : Int) : Sip := ⟨cI k 8317987319222330741, cI l 7237128888997146477, cI k 7816392313619706465, cI l 8387220255154660723⟩
def aM (s : Sip) (m : Int) : Sip :=
 let t := a7 (a7 ⟨s.a,s.b,s.c,cI s.d m⟩)
 ⟨cI t.a m,t.b,t.c,t.d⟩
def sipIt : Nat → Sip → Sip
 | 0,s => s
 | k + 1,s => a7 (sipIt k s)
def cD (s : Sip) : Int :=
 let t := sipIt 4 ⟨s.a,s.b,cI s.c 255,s.d⟩
 cI (cI (cI t.a t.b) t.c) t.d
theorem yRotI13 (x : Int) (w : World)  : Calls Try.prog 150 #[.int .u64 x, iI 13] w fun e w' => e = .returned (.int .u64 (a5 x 13)) ∧ Below w.heap.size w w' := by
 refine aq (args := [.int .u64 x,iI 13]) (fn := Try.f150) [] Try.func150 rfl Try.ntmps150 rfl (by simp) ?_
 refine kQ <| bH [0,1] ⟨[(0,.v (.int .u64 x)),(1,aI 13)],[],[],[]⟩ <| kQ <| kRD 4 [0,5] [(5,.v (.int .u64 (IntKind.u64.wrap (BitVec.ofInt 64 (IntKind.u64.wrap 13) &&& BitVec.ofInt 64 63).toNat)))] ?_
 refine bX [0,5] [(5,.v (.int .u64 (IntKind.u64.wrap (BitVec.ofInt 64 (IntKind.u64.wrap 13) &&& BitVec.ofInt 64 63).toNat)))] [(5,.v (.int .u64 13))] (by rw [show (IntKind.u64.wrap (BitVec.ofInt 64 (IntKind.u64.wrap 13) &&& BitVec.ofInt 64 63).toNat) = 13 from (by decide)]) (by kernel_rfl) ?_
 refine aH [0,5] [] <| kQ <| cU 2 [0,5,9,10] [(9,.v (.int .u64 x)),(10,.v (.int .u64 13))] (.int .u64 (IntKind.u64.wrap (x * 2 ^ (13 : Int).toNat))) rfl (fun _ _ _ ww hr => az hr.1 rfl (by kernel_rfl) (by kernel_rfl) (bG (k' := .u64) (by decide) (by decide) ww)) ?_
 refine cU 3 [11,12,14] [(12,.v (.int .u64 x)),(14,.v (.int .u64 51))] (.int .u64 (Int.fdiv x (2 ^ (51 : Int).toNat))) rfl (fun _ _ _ ww hr => az hr.1 rfl (by kernel_rfl) (by kernel_rfl) (cY (k' := .u64) (by decide) (by decide) ww)) ?_
 refine bZ [4] [(4,.v (.int .u64 (IntKind.u64.wrap (BitVec.ofInt 64 (IntKind.u64.wrap (x * 2 ^ (13 : Int).toNat)) ||| BitVec.ofInt 64 (Int.fdiv x (2 ^ (51 : Int).toNat))).toNat)))] <| kR ?_
 exact ⟨[.int .u64 (IntKind.u64.wrap (BitVec.ofInt 64 (IntKind.u64.wrap (x * 2 ^ (13 : Int).toNat)) ||| BitVec.ofInt 64 (Int.fdiv x (2 ^ (51 : Int).toNat))).toNat)],by kernel_rfl,fun w' hb hf => ⟨rfl,hb⟩⟩
theorem yRotI32 (x : Int) (w : World)  : Calls Try.prog 150 #[.int .u64 x, iI 32] w fun e w' => e = .returned (.int .u64 (a5 x 32)) ∧ Below w.heap.size w w' := by
 refine aq (args := [.int .u64 x,iI 32]) (fn := Try.f150) [] Try.func150 rfl Try.ntmps150 rfl (by simp) ?_
 refine kQ <| bH [0,1] ⟨[(0,.v (.int .u64 x)),(1,aI 32)],[],[],[]⟩ <| kQ <| kRD 4 [0,5] [(5,.v (.int .u64 (IntKind.u64.wrap (BitVec.ofInt 64 (IntKind.u64.wrap 32) &&& BitVec.ofInt 64 63).toNat)))] ?_
 refine bX [0,5] [(5,.v (.int .u64 (IntKind.u64.wrap (BitVec.ofInt 64 (IntKind.u64.wrap 32) &&& BitVec.ofInt 64 63).toNat)))] [(5,.v (.int .u64 32))] (by rw [show (IntKind.u64.wrap (BitVec.ofInt 64 (IntKind.u64.wrap 32) &&& BitVec.ofInt 64 63).toNat) = 32 from (by decide)]) (by kernel_rfl) ?_
 refine aH [0,5] [] <| kQ <| cU 2 [0,5,9,10] [(9,.v (.int .u64 x)),(10,.v (.int .u64 32))] (.int .u64 (IntKind.u64.wrap (x * 2 ^ (32 : Int).toNat))) rfl (fun _ _ _ ww hr => az hr.1 rfl (by kernel_rfl) (by kernel_rfl) (bG (k' := .u64) (by decide) (by decide) ww)) ?_
 refine cU 3 [11,12,14] [(12,.v (.int .u64 x)),(14,.v (.int .u64 32))] (.int .u64 (Int.fdiv x (2 ^ (32 : Int).toNat))) rfl (fun _ _ _ ww hr => az hr.1 rfl (by kernel_rfl) (by kernel_rfl) (cY (k' := .u64) (by decide) (by decide) ww)) ?_
 refine bZ [4] [(4,.v (.int .u64 (IntKind.u64.wrap (BitVec.ofInt 64 (IntKind.u64.wrap (x * 2 ^ (32 : Int).toNat)) ||| BitVec.ofInt 64 (Int.fdiv x (2 ^ (32 : Int).toNat))).toNat)))] <| kR ?_
 exact ⟨[.int .u64 (IntKind.u64.wrap (BitVec.ofInt 64 (IntKind.u64.wrap (x * 2 ^ (32 : Int).toNat)) ||| BitVec.ofInt 64 (Int.fdiv x (2 ^ (32 : Int).toNat))).toNat)],by kernel_rfl,fun w' hb hf => ⟨rfl,hb⟩⟩
theorem yRotI16 (x : Int) (w : World)  : Calls Try.prog 150 #[.int .u64 x, iI 16] w fun e w' => e = .returned (.int .u64 (a5 x 16)) ∧ Below w.heap.size w w' := by
 refine aq (args := [.int .u64 x,iI 16]) (fn := Try.f150) [] Try.func150 rfl Try.ntmps150 rfl (by simp) ?_
 refine kQ <| bH [0,1] ⟨[(0,.v (.int .u64 x)),(1,aI 16)],[],[],[]⟩ <| kQ <| kRD 4 [0,5] [(5,.v (.int .u64 (IntKind.u64.wrap (BitVec.ofInt 64 (IntKind.u64.wrap 16) &&& BitVec.ofInt 64 63).toNat)))] ?_
 refine bX [0,5] [(5,.v (.int .u64 (IntKind.u64.wrap (BitVec.ofInt 64 (IntKind.u64.wrap 16) &&& BitVec.ofInt 64 63).toNat)))] [(5,.v (.int .u64 16))] (by rw [show (IntKind.u64.wrap (BitVec.ofInt 64 (IntKind.u64.wrap 16) &&& BitVec.ofInt 64 63).toNat) = 16 from (by decide)]) (by kernel_rfl) ?_
 refine aH [0,5] [] <| kQ <| cU 2 [0,5,9,10] [(9,.v (.int .u64 x)),(10,.v (.int .u64 16))] (.int .u64 (IntKind.u64.wrap (x * 2 ^ (16 : Int).toNat))) rfl (fun _ _ _ ww hr => az hr.1 rfl (by kernel_rfl) (by kernel_rfl) (bG (k' := .u64) (by decide) (by decide) ww)) ?_
 refine cU 3 [11,12,14] [(12,.v (.int .u64 x)),(14,.v (.int .u64 48))] (.int .u64 (Int.fdiv x (2 ^ (48 : Int).toNat))) rfl (fun _ _ _ ww hr => az hr.1 rfl (by kernel_rfl) (by kernel_rfl) (cY (k' := .u64) (by decide) (by decide) ww)) ?_
 refine bZ [4] [(4,.v (.int .u64 (IntKind.u64.wrap (BitVec.ofInt 64 (IntKind.u64.wrap (x * 2 ^ (16 : Int).toNat)) ||| BitVec.ofInt 64 (Int.fdiv x (2 ^ (48 : Int).toNat))).toNat)))] <| kR ?_
 exact ⟨[.int .u64 (IntKind.u64.wrap (BitVec.ofInt 64 (IntKind.u64.wrap (x * 2 ^ (16 : Int).toNat)) ||| BitVec.ofInt 64 (Int.fdiv x (2 ^ (48 : Int).toNat))).toNat)],by kernel_rfl,fun w' hb hf => ⟨rfl,hb⟩⟩
theorem yRotI21 (x : Int) (w : World)  : Calls Try.prog 150 #[.int .u64 x, iI 21] w fun e w' => e = .returned (.int .u64 (a5 x 21)) ∧ Below w.heap.size w w' := by
 refine aq (args := [.int .u64 x,iI 21]) (fn := Try.f150) [] Try.func150 rfl Try.ntmps150 rfl (by simp) ?_
 refine kQ <| bH [0,1] ⟨[(0,.v (.int .u64 x)),(1,aI 21)],[],[],[]⟩ <| kQ <| kRD 4 [0,5] [(5,.v (.int .u64 (IntKind.u64.wrap (BitVec.ofInt 64 (IntKind.u64.wrap 21) &&& BitVec.ofInt 64 63).toNat)))] ?_
 refine bX [0,5] [(5,.v (.int .u64 (IntKind.u64.wrap (BitVec.ofInt 64 (IntKind.u64.wrap 21) &&& BitVec.ofInt 64 63).toNat)))] [(5,.v (.int .u64 21))] (by rw [show (IntKind.u64.wrap (BitVec.ofInt 64 (IntKind.u64.wrap 21) &&& BitVec.ofInt 64 63).toNat) = 21 from (by decide)]) (by kernel_rfl) ?_
 refine aH [0,5] [] <| kQ <| cU 2 [0,5,9,10] [(9,.v (.int .u64 x)),(10,.v (.int .u64 21))] (.int .u64 (IntKind.u64.wrap (x * 2 ^ (21 : Int).toNat))) rfl (fun _ _ _ ww hr => az hr.1 rfl (by kernel_rfl) (by kernel_rfl) (bG (k' := .u64) (by decide) (by decide) ww)) ?_
 refine cU 3 [11,12,14] [(12,.v (.int .u64 x)),(14,.v (.int .u64 43))] (.int .u64 (Int.fdiv x (2 ^ (43 : Int).toNat))) rfl (fun _ _ _ ww hr => az hr.1 rfl (by kernel_rfl) (by kernel_rfl) (cY (k' := .u64) (by decide) (by decide) ww)) ?_
 refine bZ [4] [(4,.v (.int .u64 (IntKind.u64.wrap (BitVec.ofInt 64 (IntKind.u64.wrap (x * 2 ^ (21 : Int).toNat)) ||| BitVec.ofInt 64 (Int.fdiv x (2 ^ (43 : Int).toNat))).toNat)))] <| kR ?_
 exact ⟨[.int .u64 (IntKind.u64.wrap (BitVec.ofInt 64 (IntKind.u64.wrap (x * 2 ^ (21 : Int).toNat)) ||| BitVec.ofInt 64 (Int.fdiv x (2 ^ (43 : Int).toNat))).toNat)],by kernel_rfl,fun w' hb hf => ⟨rfl,hb⟩⟩
theorem yRotI17 (x : Int) (w : World)  : Calls Try.prog 150 #[.int .u64 x, iI 17] w fun e w' => e = .returned (.int .u64 (a5 x 17)) ∧ Below w.heap.size w w' := by
 refine aq (args := [.int .u64 x,iI 17]) (fn := Try.f150) [] Try.func150 rfl Try.ntmps150 rfl (by simp) ?_
 refine kQ <| bH [0,1] ⟨[(0,.v (.int .u64 x)),(1,aI 17)],[],[],[]⟩ <| kQ <| kRD 4 [0,5] [(5,.v (.int .u64 (IntKind.u64.wrap (BitVec.ofInt 64 (IntKind.u64.wrap 17) &&& BitVec.ofInt 64 63).toNat)))] ?_
 refine bX [0,5] [(5,.v (.int .u64 (IntKind.u64.wrap (BitVec.ofInt 64 (IntKind.u64.wrap 17) &&& BitVec.ofInt 64 63).toNat)))] [(5,.v (.int .u64 17))] (by rw [show (IntKind.u64.wrap (BitVec.ofInt 64 (IntKind.u64.wrap 17) &&& BitVec.ofInt 64 63).toNat) = 17 from (by decide)]) (by kernel_rfl) ?_
 refine aH [0,5] [] <| kQ <| cU 2 [0,5,9,10] [(9,.v (.int .u64 x)),(10,.v (.int .u64 17))] (.int .u64 (IntKind.u64.wrap (x * 2 ^ (17 : Int).toNat))) rfl (fun _ _ _ ww hr => az hr.1 rfl (by kernel_rfl) (by kernel_rfl) (bG (k' := .u64) (by decide) (by decide) ww)) ?_
 refine cU 3 [11,12,14] [(12,.v (.int .u64 x)),(14,.v (.int .u64 47))] (.int .u64 (Int.fdiv x (2 ^ (47 : Int).toNat))) rfl (fun _ _ _ ww hr => az hr.1 rfl (by kernel_rfl) (by kernel_rfl) (cY (k' := .u64) (by decide) (by decide) ww)) ?_
 refine bZ [4] [(4,.v (.int .u64 (IntKind.u64.wrap (BitVec.ofInt 64 (IntKind.u64.wrap (x * 2 ^ (17 : Int).toNat)) ||| BitVec.ofInt 64 (Int.fdiv x (2 ^ (47 : Int).toNat))).toNat)))] <| kR ?_
 exact ⟨[.int .u64 (IntKind.u64.wrap (BitVec.ofInt 64 (IntKind.u64.wrap (x * 2 ^ (17 : Int).toNat)) ||| BitVec.ofInt 64 (Int.fdiv x (2 ^ (47 : Int).toNat))).toNat)],by kernel_rfl,fun w' hb hf => ⟨rfl,hb⟩⟩
theorem yTurn13 (x : Int) (w : World)  : Calls Try.prog 149 #[.int .u64 x, .int .u64 13] w fun e w' => e = .returned (.int .u64 (a5 x 13)) ∧ Below w.heap.size w w' := by
 refine aq (args := [.int .u64 x,.int .u64 13]) (fn := Try.f149) [] Try.func149 rfl Try.ntmps149 rfl (by simp) ?_
 refine kQ <| bH [0,1] ⟨[(0,.v (.int .u64 x)),(1,.v (.int .u64 13))],[],[],[]⟩ <| kQ <| cU 2 [0,1,5,6] [(5,.v (.int .u64 x)),(6,.v (.int .u64 13))] (.int .u64 (IntKind.u64.wrap (x * 2 ^ (13 : Int).toNat))) rfl (fun _ _ _ ww hr => az hr.1 rfl (by kernel_rfl) (by kernel_rfl) (bG (k' := .u64) (by decide) (by decide) ww)) ?_
 refine cU 3 [7,8,10] [(8,.v (.int .u64 x)),(10,.v (.int .u64 51))] (.int .u64 (Int.fdiv x (2 ^ (51 : Int).toNat))) rfl (fun _ _ _ ww hr => az hr.1 rfl (by kernel_rfl) (by kernel_rfl) (cY (k' := .u64) (by decide) (by decide) ww)) ?_
 refine bZ [4] [(4,.v (.int .u64 (IntKind.u64.wrap (BitVec.ofInt 64 (IntKind.u64.wrap (x * 2 ^ (13 : Int).toNat)) ||| BitVec.ofInt 64 (Int.fdiv x (2 ^ (51 : Int).toNat))).toNat)))] <| kR ?_
 exact ⟨[.int .u64 (IntKind.u64.wrap (BitVec.ofInt 64 (IntKind.u64.wrap (x * 2 ^ (13 : Int).toNat)) ||| BitVec.ofInt 64 (Int.fdiv x (2 ^ (51 : Int).toNat))).toNat)],by kernel_rfl,fun w' hb hf => ⟨rfl,hb⟩⟩
theorem yTurn32 (x : Int) (w : World)  : Calls Try.prog 149 #[.int .u64 x, .int .u64 32] w fun e w' => e = .returned (.int .u64 (a5 x 32)) ∧ Below w.heap.size w w' := by
 refine aq (args := [.int .u64 x,.int .u64 32]) (fn := Try.f149) [] Try.func149 rfl Try.ntmps149 rfl (by simp) ?_
 refine kQ <| bH [0,1] ⟨[(0,.v (.int .u64 x)),(1,.v (.int .u64 32))],[],[],[]⟩ <| kQ <| cU 2 [0,1,5,6] [(5,.v (.int .u64 x)),(6,.v (.int .u64 32))] (.int .u64 (IntKind.u64.wrap (x * 2 ^ (32 : Int).toNat))) rfl (fun _ _ _ ww hr => az hr.1 rfl (by kernel_rfl) (by kernel_rfl) (bG (k' := .u64) (by decide) (by decide) ww)) ?_
 refine cU 3 [7,8,10] [(8,.v (.int .u64 x)),(10,.v (.int .u64 32))] (.int .u64 (Int.fdiv x (2 ^ (32 : Int).toNat))) rfl (fun _ _ _ ww hr => az hr.1 rfl (by kernel_rfl) (by kernel_rfl) (cY (k' := .u64) (by decide) (by decide) ww)) ?_
 refine bZ [4] [(4,.v (.int .u64 (IntKind.u64.wrap (BitVec.ofInt 64 (IntKind.u64.wrap (x * 2 ^ (32 : Int).toNat)) ||| BitVec.ofInt 64 (Int.fdiv x (2 ^ (32 : Int).toNat))).toNat)))] <| kR ?_
 exact ⟨[.int .u64 (IntKind.u64.wrap (BitVec.ofInt 64 (IntKind.u64.wrap (x * 2 ^ (32 : Int).toNat)) ||| BitVec.ofInt 64 (Int.fdiv x (2 ^ (32 : Int).toNat))).toNat)],by kernel_rfl,fun w' hb hf => ⟨rfl,hb⟩⟩
theorem yTurn16 (x : Int) (w : World)  : Calls Try.prog 149 #[.int .u64 x, .int .u64 16] w fun e w' => e = .returned (.int .u64 (a5 x 16)) ∧ Below w.heap.size w w' := by
 refine aq (args := [.int .u64 x,.int .u64 16]) (fn := Try.f149) [] Try.func149 rfl Try.ntmps149 rfl (by simp) ?_
 refine kQ <| bH [0,1] ⟨[(0,.v (.int .u64 x)),(1,.v (.int .u64 16))],[],[],[]⟩ <| kQ <| cU 2 [0,1,5,6] [(5,.v (.int .u64 x)),(6,.v (.int .u64 16))] (.int .u64 (IntKind.u64.wrap (x * 2 ^ (16 : Int).toNat))) rfl (fun _ _ _ ww hr => az hr.1 rfl (by kernel_rfl) (by kernel_rfl) (bG (k' := .u64) (by decide) (by decide) ww)) ?_
 refine cU 3 [7,8,10] [(8,.v (.int .u64 x)),(10,.v (.int .u64 48))] (.int .u64 (Int.fdiv x (2 ^ (48 : Int).toNat))) rfl (fun _ _ _ ww hr => az hr.1 rfl (by kernel_rfl) (by kernel_rfl) (cY (k' := .u64) (by decide) (by decide) ww)) ?_
 refine bZ [4] [(4,.v (.int .u64 (IntKind.u64.wrap (BitVec.ofInt 64 (IntKind.u64.wrap (x * 2 ^ (16 : Int).toNat)) ||| BitVec.ofInt 64 (Int.fdiv x (2 ^ (48 : Int).toNat))).toNat)))] <| kR ?_
 exact ⟨[.int .u64 (IntKind.u64.wrap (BitVec.ofInt 64 (IntKind.u64.wrap (x * 2 ^ (16 : Int).toNat)) ||| BitVec.ofInt 64 (Int.fdiv x (2 ^ (48 : Int).toNat))).toNat)],by kernel_rfl,fun w' hb hf => ⟨rfl,hb⟩⟩
theorem yTurn21 (x : Int) (w : World)  : Calls Try.prog 149 #[.int .u64 x, .int .u64 21] w fun e w' => e = .returned (.int .u64 (a5 x 21)) ∧ Below w.heap.size w w' := by
 refine aq (args := [.int .u64 x,.int .u64 21]) (fn := Try.f149) [] Try.func149 rfl Try.ntmps149 rfl (by simp) ?_
 refine kQ <| bH [0,1] ⟨[(0,.v (.int .u64 x)),(1,.v (.int .u64 21))],[],[],[]⟩ <| kQ <| cU 2 [0,1,5,6] [(5,.v (.int .u64 x)),(6,.v (.int .u64 21))] (.int .u64 (IntKind.u64.wrap (x * 2 ^ (21 : Int).toNat))) rfl (fun _ _ _ ww hr => az hr.1 rfl (by kernel_rfl) (by kernel_rfl) (bG (k' := .u64) (by decide) (by decide) ww)) ?_
 refine cU 3 [7,8,10] [(8,.v (.int .u64 x)),(10,.v (.int .u64 43))] (.int .u64 (Int.fdiv x (2 ^ (43 : Int).toNat))) rfl (fun _ _ _ ww hr => az hr.1 rfl (by kernel_rfl) (by kernel_rfl) (cY (k' := .u64) (by decide) (by decide) ww)) ?_
 refine bZ [4] [(4,.v (.int .u64 (IntKind.u64.wrap (BitVec.ofInt 64 (IntKind.u64.wrap (x * 2 ^ (21 : Int).toNat)) ||| BitVec.ofInt 64 (Int.fdiv x (2 ^ (43 : Int).toNat))).toNat)))] <| kR ?_
 exact ⟨[.int .u64 (IntKind.u64.wrap (BitVec.ofInt 64 (IntKind.u64.wrap (x * 2 ^ (21 : Int).toNat)) ||| BitVec.ofInt 64 (Int.fdiv x (2 ^ (43 : Int).toNat))).toNat)],by kernel_rfl,fun w' hb hf => ⟨rfl,hb⟩⟩
theorem yTurn17 (x : Int) (w : World)  : Calls Try.prog 149 #[.int .u64 x, .int .u64 17] w fun e w' => e = .returned (.int .u64 (a5 x 17)) ∧ Below w.heap.size w w' := by
 refine aq (args := [.int .u64 x,.int .u64 17]) (fn := Try.f149) [] Try.func149 rfl Try.ntmps149 rfl (by simp) ?_
 refine kQ <| bH [0,1] ⟨[(0,.v (.int .u64 x)),(1,.v (.int .u64 17))],[],[],[]⟩ <| kQ <| cU 2 [0,1,5,6] [(5,.v (.int .u64 x)),(6,.v (.int .u64 17))] (.int .u64 (IntKind.u64.wrap (x * 2 ^ (17 : Int).toNat))) rfl (fun _ _ _ ww hr => az hr.1 rfl (by kernel_rfl) (by kernel_rfl) (bG (k' := .u64) (by decide) (by decide) ww)) ?_
 refine cU 3 [7,8,10] [(8,.v (.int .u64 x)),(10,.v (.int .u64 47))] (.int .u64 (Int.fdiv x (2 ^ (47 : Int).toNat))) rfl (fun _ _ _ ww hr => az hr.1 rfl (by kernel_rfl) (by kernel_rfl) (cY (k' := .u64) (by decide) (by decide) ww)) ?_
 refine bZ [4] [(4,.v (.int .u64 (IntKind.u64.wrap (BitVec.ofInt 64 (IntKind.u64.wrap (x * 2 ^ (17 : Int).toNat)) ||| BitVec.ofInt 64 (Int.fdiv x (2 ^ (47 : Int).toNat))).toNat)))] <| kR ?_
 exact ⟨[.int .u64 (IntKind.u64.wrap (BitVec.ofInt 64 (IntKind.u64.wrap (x * 2 ^ (17 : Int).toNat)) ||| BitVec.ofInt 64 (Int.fdiv x (2 ^ (47 : Int).toNat))).toNat)],by kernel_rfl,fun w' hb hf => ⟨rfl,hb⟩⟩
theorem ysSipStart_c (k : Int) (l : Int) (w : World)  : Calls Try.prog 130 #[.int .u64 k, .int .u64 l] w fun e w' => e = .returned (.agg (aX (ca k l)).toArray) ∧ Below w.heap.size w w' := by
 refine aq (args := [.int .u64 k,.int .u64 l]) (fn := Try.f130) [] Try.func130 rfl Try.ntmps130 rfl (by simp) ?_
 refine kQ <| bH [0,1,4] ⟨[(0,.v (.int .u64 k)),(1,.v (.int .u64 l)),(4,.p 0 0)],[⟨170,[.int .u64 0,.int .u64 0,.int .u64 0,.int .u64 0]⟩],[],[]⟩ <| kQ <| cU 1 [0,1,4,5] [(5,.v (.int .u64 k))] (.int .u64 (IntKind.u64.wrap (BitVec.ofInt 64 k ^^^ BitVec.ofInt 64 8317987319222330741).toNat)) rfl (fun _ _ _ ww hr => az hr.1 rfl (by kernel_rfl) (by kernel_rfl) (am ww)) ?_
 refine cU 1 [0,1,4,6,7] [(7,.v (.int .u64 l))] (.int .u64 (IntKind.u64.wrap (BitVec.ofInt 64 l ^^^ BitVec.ofInt 64 7237128888997146477).toNat)) rfl (fun _ _ _ ww hr => az hr.1 rfl (by kernel_rfl) (by kernel_rfl) (am ww)) ?_
 refine cU 1 [1,4,6,8,9] [(9,.v (.int .u64 k))] (.int .u64 (IntKind.u64.wrap (BitVec.ofInt 64 k ^^^ BitVec.ofInt 64 7816392313619706465).toNat)) rfl (fun _ _ _ ww hr => az hr.1 rfl (by kernel_rfl) (by kernel_rfl) (am ww)) ?_
 refine cU 1 [4,6,8,10,11] [(11,.v (.int .u64 l))] (.int .u64 (IntKind.u64.wrap (BitVec.ofInt 64 l ^^^ BitVec.ofInt 64 8387220255154660723).toNat)) rfl (fun _ _ _ ww hr => az hr.1 rfl (by kernel_rfl) (by kernel_rfl) (am ww)) ?_
 refine cU 0 [4,6,8,10,12] [] (.agg #[.int .u64 (IntKind.u64.wrap (BitVec.ofInt 64 k ^^^ BitVec.ofInt 64 8317987319222330741).toNat),.int .u64 (IntKind.u64.wrap (BitVec.ofInt 64 l ^^^ BitVec.ofInt 64 7237128888997146477).toNat),.int .u64 (IntKind.u64.wrap (BitVec.ofInt 64 k ^^^ BitVec.ofInt 64 7816392313619706465).toNat),.int .u64 (IntKind.u64.wrap (BitVec.ofInt 64 l ^^^ BitVec.ofInt 64 8387220255154660723).toNat)]) rfl (fun _ _ _ ww hr => act_build [(0,.int .u64 (IntKind.u64.wrap (BitVec.ofInt 64 k ^^^ BitVec.ofInt 64 8317987319222330741).toNat)),(1,.int .u64 (IntKind.u64.wrap (BitVec.ofInt 64 l ^^^ BitVec.ofInt 64 7237128888997146477).toNat)),(2,.int .u64 (IntKind.u64.wrap (BitVec.ofInt 64 k ^^^ BitVec.ofInt 64 7816392313619706465).toNat)),(3,.int .u64 (IntKind.u64.wrap (BitVec.ofInt 64 l ^^^ BitVec.ofInt 64 8387220255154660723).toNat))] hr.1 rfl (by kernel_rfl) (by kernel_rfl) ww) ?_
 refine kEU [4] [(4,.p 0 0)] 0 ⟨170,[.int .u64 (IntKind.u64.wrap (BitVec.ofInt 64 k ^^^ BitVec.ofInt 64 8317987319222330741).toNat),.int .u64 (IntKind.u64.wrap (BitVec.ofInt 64 l ^^^ BitVec.ofInt 64 7237128888997146477).toNat),.int .u64 (IntKind.u64.wrap (BitVec.ofInt 64 k ^^^ BitVec.ofInt 64 7816392313619706465).toNat),.int .u64 (IntKind.u64.wrap (BitVec.ofInt 64 l ^^^ BitVec.ofInt 64 8387220255154660723).toNat)]⟩ <| kR ?_
 exact ⟨[.agg #[.int .u64 (IntKind.u64.wrap (BitVec.ofInt 64 k ^^^ BitVec.ofInt 64 8317987319222330741).toNat),.int .u64 (IntKind.u64.wrap (BitVec.ofInt 64 l ^^^ BitVec.ofInt 64 7237128888997146477).toNat),.int .u64 (IntKind.u64.wrap (BitVec.ofInt 64 k ^^^ BitVec.ofInt 64 7816392313619706465).toNat),.int .u64 (IntKind.u64.wrap (BitVec.ofInt 64 l ^^^ BitVec.ofInt 64 8387220255154660723).toNat)]],by kernel_rfl,fun w' hb hf => ⟨by first | rfl | (rw [hend]; rfl),hb⟩⟩
theorem cv (s : Sip) (w : World)  : Calls Try.prog 144 #[.agg (aX s).toArray] w fun e w' => e = .returned (.agg (aX (a7 s)).toArray) ∧ Below w.heap.size w w' := by
 refine aq (args := [.agg (aX s).toArray]) (fn := Try.f144) [] Try.func144 rfl Try.ntmps144 rfl (by simp) ?_
 refine kQ <| bH [1,2] ⟨[(1,.p 0 0),(2,.p 1 0)],[⟨170,aX s⟩,⟨170,[.int .u64 0,.int .u64 0,.int .u64 0,.int .u64 0]⟩],[],[]⟩ <| kQ <| kEU [1,2] [] 0 ⟨170,aX { s with a := IntKind.u64.wrap (s.a + s.b) }⟩ ?_
 refine kS <| cM ⟨[(1,.p 0 0),(2,.p 1 0)],[⟨170,aX { s with a := IntKind.u64.wrap (s.a + s.b),b := IntKind.u64.wrap (BitVec.ofInt 64 (a5 s.b 13) ^^^ BitVec.ofInt 64 (IntKind.u64.wrap (s.a + s.b))).toNat }⟩,⟨170,[.int .u64 0,.int .u64 0,.int .u64 0,.int .u64 0]⟩],[],[]⟩ ?_ ?_
 refine aN [false,true] (by kernel_rfl) (fun ρ σ => ?_)
 refine kTD [0,3] [12,9,1,2] 6 [(12,.p 0 0),(9,.p 0 1)] <| kA [1,4] ⟨?_,?_⟩
 refine dz 1 (.v (.int .u64 s.b)) rfl <| kA [2,4] ⟨?_,?_⟩
 refine cw 2 149 [.int .u64 s.b,.int .u64 13] (some 11) rfl (ai fun ww hf => yTurn13 s.b ww) ?_
 intro _
 refine kA [4] <| dz 4 (.v (.int .u64 (IntKind.u64.wrap (s.a + s.b)))) rfl <| kX 5 (.int .u64 (IntKind.u64.wrap (BitVec.ofInt 64 (a5 s.b 13) ^^^ BitVec.ofInt 64 (IntKind.u64.wrap (s.a + s.b))).toNat)) rfl (fun _ _ ww hA => az hA rfl (by kernel_rfl) (by kernel_rfl) (am ww)) ?_
 refine kTD [6] [15,14,1,2] 1 [(15,.p 0 1),(14,.v (.int .u64 (IntKind.u64.wrap (BitVec.ofInt 64 (a5 s.b 13) ^^^ BitVec.ofInt 64 (IntKind.u64.wrap (s.a + s.b))).toNat)))] <| kA [7] <| kSS 7 0 1 [.int .u64 (IntKind.u64.wrap (BitVec.ofInt 64 (a5 s.b 13) ^^^ BitVec.ofInt 64 (IntKind.u64.wrap (s.a + s.b))).toNat)] rfl <| kZ ?_
 exact kF 2 0 [1,2]
 refine dz 4 (.v (.int .u64 (IntKind.u64.wrap (s.a + s.b)))) rfl <| kA [2] <| cw 2 149 [.int .u64 s.b,.int .u64 13] (some 11) rfl (ai fun ww hf => yTurn13 s.b ww) ?_
 intro _
 refine kX 5 (.int .u64 (IntKind.u64.wrap (BitVec.ofInt 64 (a5 s.b 13) ^^^ BitVec.ofInt 64 (IntKind.u64.wrap (s.a + s.b))).toNat)) rfl (fun _ _ ww hA => az hA rfl (by kernel_rfl) (by kernel_rfl) (am ww)) ?_
 refine kTD [6] [15,14,1,2] 1 [(15,.p 0 1),(14,.v (.int .u64 (IntKind.u64.wrap (BitVec.ofInt 64 (a5 s.b 13) ^^^ BitVec.ofInt 64 (IntKind.u64.wrap (s.a + s.b))).toNat)))] <| kA [7] <| kSS 7 0 1 [.int .u64 (IntKind.u64.wrap (BitVec.ofInt 64 (a5 s.b 13) ^^^ BitVec.ofInt 64 (IntKind.u64.wrap (s.a + s.b))).toNat)] rfl <| kZ ?_
 exact kF 2 0 [1,2]
 refine dz 4 (.v (.int .u64 (IntKind.u64.wrap (s.a + s.b)))) rfl <| kA [1] <| dz 1 (.v (.int .u64 s.b)) rfl <| kA [2] ?_
 refine cw 2 149 [.int .u64 s.b,.int .u64 13] (some 11) rfl (ai fun ww hf => yTurn13 s.b ww) ?_
 intro _
 refine kX 5 (.int .u64 (IntKind.u64.wrap (BitVec.ofInt 64 (a5 s.b 13) ^^^ BitVec.ofInt 64 (IntKind.u64.wrap (s.a + s.b))).toNat)) rfl (fun _ _ ww hA => az hA rfl (by kernel_rfl) (by kernel_rfl) (am ww)) ?_
 refine kTD [6] [15,14,1,2] 1 [(15,.p 0 1),(14,.v (.int .u64 (IntKind.u64.wrap (BitVec.ofInt 64 (a5 s.b 13) ^^^ BitVec.ofInt 64 (IntKind.u64.wrap (s.a + s.b))).toNat)))] <| kA [7] <| kSS 7 0 1 [.int .u64 (IntKind.u64.wrap (BitVec.ofInt 64 (a5 s.b 13) ^^^ BitVec.ofInt 64 (IntKind.u64.wrap (s.a + s.b))).toNat)] rfl <| kZ ?_
 exact kF 2 0 [1,2]
 refine kQ <| ci 2 [1,2,17] [(17,.v (.int .u64 (IntKind.u64.wrap (s.a + s.b))))] 149 [.int .u64 (IntKind.u64.wrap (s.a + s.b)),.int .u64 32] (some 18) rfl (ai fun ww hf => yTurn32 (IntKind.u64.wrap (s.a + s.b)) ww) ?_
 intro _
 refine kEU [1,2] [] 0 ⟨170,aX { s with a := a5 (IntKind.u64.wrap (s.a + s.b)) 32,b := IntKind.u64.wrap (BitVec.ofInt 64 (a5 s.b 13) ^^^ BitVec.ofInt 64 (IntKind.u64.wrap (s.a + s.b))).toNat }⟩ <| kQ <| kEU [1,2] [] 0 ⟨170,[.int .u64 (a5 (IntKind.u64.wrap (s.a + s.b)) 32),.int .u64 (IntKind.u64.wrap (BitVec.ofInt 64 (a5 s.b 13) ^^^ BitVec.ofInt 64 (IntKind.u64.wrap (s.a + s.b))).toNat),.int .u64 (IntKind.u64.wrap (s.c + s.d)),.int .u64 s.d]⟩ <| kS <| cM ⟨[(1,.p 0 0),(2,.p 1 0)],[⟨170,[.int .u64 (a5 (IntKind.u64.wrap (s.a + s.b)) 32),.int .u64 (IntKind.u64.wrap (BitVec.ofInt 64 (a5 s.b 13) ^^^ BitVec.ofInt 64 (IntKind.u64.wrap (s.a + s.b))).toNat),.int .u64 (IntKind.u64.wrap (s.c + s.d)),.int .u64 (IntKind.u64.wrap (BitVec.ofInt 64 (a5 s.d 16) ^^^ BitVec.ofInt 64 (IntKind.u64.wrap (s.c + s.d))).toNat)]⟩,⟨170,[.int .u64 0,.int .u64 0,.int .u64 0,.int .u64 0]⟩],[],[]⟩ ?_ ?_
 refine aN [false,true] (by kernel_rfl) (fun ρ σ => ?_)
 refine kTD [0,3] [29,26,1,2] 6 [(29,.p 0 2),(26,.p 0 3)] <| kA [1,4] ⟨?_,?_⟩
 refine dz 1 (.v (.int .u64 s.d)) rfl <| kA [2,4] ⟨?_,?_⟩
 refine cw 2 149 [.int .u64 s.d,.int .u64 16] (some 28) rfl (ai fun ww hf => yTurn16 s.d ww) ?_
 intro _
 refine kA [4] <| dz 4 (.v (.int .u64 (IntKind.u64.wrap (s.c + s.d)))) rfl <| kX 5 (.int .u64 (IntKind.u64.wrap (BitVec.ofInt 64 (a5 s.d 16) ^^^ BitVec.ofInt 64 (IntKind.u64.wrap (s.c + s.d))).toNat)) rfl (fun _ _ ww hA => az hA rfl (by kernel_rfl) (by kernel_rfl) (am ww)) ?_
 refine kTD [6] [32,31,1,2] 1 [(32,.p 0 3),(31,.v (.int .u64 (IntKind.u64.wrap (BitVec.ofInt 64 (a5 s.d 16) ^^^ BitVec.ofInt 64 (IntKind.u64.wrap (s.c + s.d))).toNat)))] <| kA [7] <| kSS 7 0 3 [.int .u64 (IntKind.u64.wrap (BitVec.ofInt 64 (a5 s.d 16) ^^^ BitVec.ofInt 64 (IntKind.u64.wrap (s.c + s.d))).toNat)] rfl <| kZ ?_
 exact kF 2 0 [1,2]
 refine dz 4 (.v (.int .u64 (IntKind.u64.wrap (s.c + s.d)))) rfl <| kA [2] <| cw 2 149 [.int .u64 s.d,.int .u64 16] (some 28) rfl (ai fun ww hf => yTurn16 s.d ww) ?_
 intro _
 refine kX 5 (.int .u64 (IntKind.u64.wrap (BitVec.ofInt 64 (a5 s.d 16) ^^^ BitVec.ofInt 64 (IntKind.u64.wrap (s.c + s.d))).toNat)) rfl (fun _ _ ww hA => az hA rfl (by kernel_rfl) (by kernel_rfl) (am ww)) ?_
 refine kTD [6] [32,31,1,2] 1 [(32,.p 0 3),(31,.v (.int .u64 (IntKind.u64.wrap (BitVec.ofInt 64 (a5 s.d 16) ^^^ BitVec.ofInt 64 (IntKind.u64.wrap (s.c + s.d))).toNat)))] <| kA [7] <| kSS 7 0 3 [.int .u64 (IntKind.u64.wrap (BitVec.ofInt 64 (a5 s.d 16) ^^^ BitVec.ofInt 64 (IntKind.u64.wrap (s.c + s.d))).toNat)] rfl <| kZ ?_
 exact kF 2 0 [1,2]
 refine dz 4 (.v (.int .u64 (IntKind.u64.wrap (s.c + s.d)))) rfl <| kA [1] <| dz 1 (.v (.int .u64 s.d)) rfl <| kA [2] ?_
 refine cw 2 149 [.int .u64 s.d,.int .u64 16] (some 28) rfl (ai fun ww hf => yTurn16 s.d ww) ?_
 intro _
 refine kX 5 (.int .u64 (IntKind.u64.wrap (BitVec.ofInt 64 (a5 s.d 16) ^^^ BitVec.ofInt 64 (IntKind.u64.wrap (s.c + s.d))).toNat)) rfl (fun _ _ ww hA => az hA rfl (by kernel_rfl) (by kernel_rfl) (am ww)) ?_
 refine kTD [6] [32,31,1,2] 1 [(32,.p 0 3),(31,.v (.int .u64 (IntKind.u64.wrap (BitVec.ofInt 64 (a5 s.d 16) ^^^ BitVec.ofInt 64 (IntKind.u64.wrap (s.c + s.d))).toNat)))] <| kA [7] <| kSS 7 0 3 [.int .u64 (IntKind.u64.wrap (BitVec.ofInt 64 (a5 s.d 16) ^^^ BitVec.ofInt 64 (IntKind.u64.wrap (s.c + s.d))).toNat)] rfl <| kZ ?_
 exact kF 2 0 [1,2]
 refine kQ <| kEU [1,2] [] 0 ⟨170,[.int .u64 (IntKind.u64.wrap ((a5 (IntKind.u64.wrap (s.a + s.b)) 32) + (IntKind.u64.wrap (BitVec.ofInt 64 (a5 s.d 16) ^^^ BitVec.ofInt 64 (IntKind.u64.wrap (s.c + s.d))).toNat))),.int .u64 (IntKind.u64.wrap (BitVec.ofInt 64 (a5 s.b 13) ^^^ BitVec.ofInt 64 (IntKind.u64.wrap (s.a + s.b))).toNat),.int .u64 (IntKind.u64.wrap (s.c + s.d)),.int .u64 (IntKind.u64.wrap (BitVec.ofInt 64 (a5 s.d 16) ^^^ BitVec.ofInt 64 (IntKind.u64.wrap (s.c + s.d))).toNat)]⟩ <| kS <| cM ⟨[(1,.p 0 0),(2,.p 1 0)],[⟨170,[.int .u64 (IntKind.u64.wrap ((a5 (IntKind.u64.wrap (s.a + s.b)) 32) + (IntKind.u64.wrap (BitVec.ofInt 64 (a5 s.d 16) ^^^ BitVec.ofInt 64 (IntKind.u64.wrap (s.c + s.d))).toNat))),.int .u64 (IntKind.u64.wrap (BitVec.ofInt 64 (a5 s.b 13) ^^^ BitVec.ofInt 64 (IntKind.u64.wrap (s.a + s.b))).toNat),.int .u64 (IntKind.u64.wrap (s.c + s.d)),.int .u64 (IntKind.u64.wrap (BitVec.ofInt 64 (a5 (IntKind.u64.wrap (BitVec.ofInt 64 (a5 s.d 16) ^^^ BitVec.ofInt 64 (IntKind.u64.wrap (s.c + s.d))).toNat) 21) ^^^ BitVec.ofInt 64 (IntKind.u64.wrap ((a5 (IntKind.u64.wrap (s.a + s.b)) 32) + (IntKind.u64.wrap (BitVec.ofInt 64 (a5 s.d 16) ^^^ BitVec.ofInt 64 (IntKind.u64.wrap (s.c + s.d))).toNat)))).toNat)]⟩,⟨170,[.int .u64 0,.int .u64 0,.int .u64 0,.int .u64 0]⟩],[],[]⟩ ?_ ?_
 refine aN [false,true] (by kernel_rfl) (fun ρ σ => ?_)
 refine kTD [0,3] [42,39,1,2] 6 [(42,.p 0 0),(39,.p 0 3)] <| kA [1,4] ⟨?_,?_⟩
 refine dz 1 (.v (.int .u64 (IntKind.u64.wrap (BitVec.ofInt 64 (a5 s.d 16) ^^^ BitVec.ofInt 64 (IntKind.u64.wrap (s.c + s.d))).toNat))) rfl <| kA [2,4] ⟨?_,?_⟩
 refine cw 2 149 [.int .u64 (IntKind.u64.wrap (BitVec.ofInt 64 (a5 s.d 16) ^^^ BitVec.ofInt 64 (IntKind.u64.wrap (s.c + s.d))).toNat),.int .u64 21] (some 41) rfl (ai fun ww hf => yTurn21 (IntKind.u64.wrap (BitVec.ofInt 64 (a5 s.d 16) ^^^ BitVec.ofInt 64 (IntKind.u64.wrap (s.c + s.d))).toNat) ww) ?_
 intro _
 refine kA [4] <| dz 4 (.v (.int .u64 (IntKind.u64.wrap ((a5 (IntKind.u64.wrap (s.a + s.b)) 32) + (IntKind.u64.wrap (BitVec.ofInt 64 (a5 s.d 16) ^^^ BitVec.ofInt 64 (IntKind.u64.wrap (s.c + s.d))).toNat))))) rfl <| kX 5 (.int .u64 (IntKind.u64.wrap (BitVec.ofInt 64 (a5 (IntKind.u64.wrap (BitVec.ofInt 64 (a5 s.d 16) ^^^ BitVec.ofInt 64 (IntKind.u64.wrap (s.c + s.d))).toNat) 21) ^^^ BitVec.ofInt 64 (IntKind.u64.wrap ((a5 (IntKind.u64.wrap (s.a + s.b)) 32) + (IntKind.u64.wrap (BitVec.ofInt 64 (a5 s.d 16) ^^^ BitVec.ofInt 64 (IntKind.u64.wrap (s.c + s.d))).toNat)))).toNat)) rfl (fun _ _ ww hA => az hA rfl (by kernel_rfl) (by kernel_rfl) (am ww)) ?_
 refine kTD [6] [45,44,1,2] 1 [(45,.p 0 3),(44,.v (.int .u64 (IntKind.u64.wrap (BitVec.ofInt 64 (a5 (IntKind.u64.wrap (BitVec.ofInt 64 (a5 s.d 16) ^^^ BitVec.ofInt 64 (IntKind.u64.wrap (s.c + s.d))).toNat) 21) ^^^ BitVec.ofInt 64 (IntKind.u64.wrap ((a5 (IntKind.u64.wrap (s.a + s.b)) 32) + (IntKind.u64.wrap (BitVec.ofInt 64 (a5 s.d 16) ^^^ BitVec.ofInt 64 (IntKind.u64.wrap (s.c + s.d))).toNat)))).toNat)))] <| kA [7] <| kSS 7 0 3 [.int .u64 (IntKind.u64.wrap (BitVec.ofInt 64 (a5 (IntKind.u64.wrap (BitVec.ofInt 64 (a5 s.d 16) ^^^ BitVec.ofInt 64 (IntKind.u64.wrap (s.c + s.d))).toNat) 21) ^^^ BitVec.ofInt 64 (IntKind.u64.wrap ((a5 (IntKind.u64.wrap (s.a + s.b)) 32) + (IntKind.u64.wrap (BitVec.ofInt 64 (a5 s.d 16) ^^^ BitVec.ofInt 64 (IntKind.u64.wrap (s.c + s.d))).toNat)))).toNat)] rfl <| kZ ?_
 exact kF 2 0 [1,2]
 refine dz 4 (.v (.int .u64 (IntKind.u64.wrap ((a5 (IntKind.u64.wrap (s.a + s.b)) 32) + (IntKind.u64.wrap (BitVec.ofInt 64 (a5 s.d 16) ^^^ BitVec.ofInt 64 (IntKind.u64.wrap (s.c + s.d))).toNat))))) rfl <| kA [2] <| cw 2 149 [.int .u64 (IntKind.u64.wrap (BitVec.ofInt 64 (a5 s.d 16) ^^^ BitVec.ofInt 64 (IntKind.u64.wrap (s.c + s.d))).toNat),.int .u64 21] (some 41) rfl (ai fun ww hf => yTurn21 (IntKind.u64.wrap (BitVec.ofInt 64 (a5 s.d 16) ^^^ BitVec.ofInt 64 (IntKind.u64.wrap (s.c + s.d))).toNat) ww) ?_
 intro _
 refine kX 5 (.int .u64 (IntKind.u64.wrap (BitVec.ofInt 64 (a5 (IntKind.u64.wrap (BitVec.ofInt 64 (a5 s.d 16) ^^^ BitVec.ofInt 64 (IntKind.u64.wrap (s.c + s.d))).toNat) 21) ^^^ BitVec.ofInt 64 (IntKind.u64.wrap ((a5 (IntKind.u64.wrap (s.a + s.b)) 32) + (IntKind.u64.wrap (BitVec.ofInt 64 (a5 s.d 16) ^^^ BitVec.ofInt 64 (IntKind.u64.wrap (s.c + s.d))).toNat)))).toNat)) rfl (fun _ _ ww hA => az hA rfl (by kernel_rfl) (by kernel_rfl) (am ww)) ?_
 refine kTD [6] [45,44,1,2] 1 [(45,.p 0 3),(44,.v (.int .u64 (IntKind.u64.wrap (BitVec.ofInt 64 (a5 (IntKind.u64.wrap (BitVec.ofInt 64 (a5 s.d 16) ^^^ BitVec.ofInt 64 (IntKind.u64.wrap (s.c + s.d))).toNat) 21) ^^^ BitVec.ofInt 64 (IntKind.u64.wrap ((a5 (IntKind.u64.wrap (s.a + s.b)) 32) + (IntKind.u64.wrap (BitVec.ofInt 64 (a5 s.d 16) ^^^ BitVec.ofInt 64 (IntKind.u64.wrap (s.c + s.d))).toNat)))).toNat)))] <| kA [7] <| kSS 7 0 3 [.int .u64 (IntKind.u64.wrap (BitVec.ofInt 64 (a5 (IntKind.u64.wrap (BitVec.ofInt 64 (a5 s.d 16) ^^^ BitVec.ofInt 64 (IntKind.u64.wrap (s.c + s.d))).toNat) 21) ^^^ BitVec.ofInt 64 (IntKind.u64.wrap ((a5 (IntKind.u64.wrap (s.a + s.b)) 32) + (IntKind.u64.wrap (BitVec.ofInt 64 (a5 s.d 16) ^^^ BitVec.ofInt 64 (IntKind.u64.wrap (s.c + s.d))).toNat)))).toNat)] rfl <| kZ ?_
 exact kF 2 0 [1,2]
 refine dz 4 (.v (.int .u64 (IntKind.u64.wrap ((a5 (IntKind.u64.wrap (s.a + s.b)) 32) + (IntKind.u64.wrap (BitVec.ofInt 64 (a5 s.d 16) ^^^ BitVec.ofInt 64 (IntKind.u64.wrap (s.c + s.d))).toNat))))) rfl <| kA [1] <| dz 1 (.v (.int .u64 (IntKind.u64.wrap (BitVec.ofInt 64 (a5 s.d 16) ^^^ BitVec.ofInt 64 (IntKind.u64.wrap (s.c + s.d))).toNat))) rfl <| kA [2] ?_
 refine cw 2 149 [.int .u64 (IntKind.u64.wrap (BitVec.ofInt 64 (a5 s.d 16) ^^^ BitVec.ofInt 64 (IntKind.u64.wrap (s.c + s.d))).toNat),.int .u64 21] (some 41) rfl (ai fun ww hf => yTurn21 (IntKind.u64.wrap (BitVec.ofInt 64 (a5 s.d 16) ^^^ BitVec.ofInt 64 (IntKind.u64.wrap (s.c + s.d))).toNat) ww) ?_
 intro _
 refine kX 5 (.int .u64 (IntKind.u64.wrap (BitVec.ofInt 64 (a5 (IntKind.u64.wrap (BitVec.ofInt 64 (a5 s.d 16) ^^^ BitVec.ofInt 64 (IntKind.u64.wrap (s.c + s.d))).toNat) 21) ^^^ BitVec.ofInt 64 (IntKind.u64.wrap ((a5 (IntKind.u64.wrap (s.a + s.b)) 32) + (IntKind.u64.wrap (BitVec.ofInt 64 (a5 s.d 16) ^^^ BitVec.ofInt 64 (IntKind.u64.wrap (s.c + s.d))).toNat)))).toNat)) rfl (fun _ _ ww hA => az hA rfl (by kernel_rfl) (by kernel_rfl) (am ww)) ?_
 refine kTD [6] [45,44,1,2] 1 [(45,.p 0 3),(44,.v (.int .u64 (IntKind.u64.wrap (BitVec.ofInt 64 (a5 (IntKind.u64.wrap (BitVec.ofInt 64 (a5 s.d 16) ^^^ BitVec.ofInt 64 (IntKind.u64.wrap (s.c + s.d))).toNat) 21) ^^^ BitVec.ofInt 64 (IntKind.u64.wrap ((a5 (IntKind.u64.wrap (s.a + s.b)) 32) + (IntKind.u64.wrap (BitVec.ofInt 64 (a5 s.d 16) ^^^ BitVec.ofInt 64 (IntKind.u64.wrap (s.c + s.d))).toNat)))).toNat)))] <| kA [7] <| kSS 7 0 3 [.int .u64 (IntKind.u64.wrap (BitVec.ofInt 64 (a5 (IntKind.u64.wrap (BitVec.ofInt 64 (a5 s.d 16) ^^^ BitVec.ofInt 64 (IntKind.u64.wrap (s.c + s.d))).toNat) 21) ^^^ BitVec.ofInt 64 (IntKind.u64.wrap ((a5 (IntKind.u64.wrap (s.a + s.b)) 32) + (IntKind.u64.wrap (BitVec.ofInt 64 (a5 s.d 16) ^^^ BitVec.ofInt 64 (IntKind.u64.wrap (s.c + s.d))).toNat)))).toNat)] rfl <| kZ ?_
 exact kF 2 0 [1,2]
 refine kQ <| kEU [1,2] [] 0 ⟨170,[.int .u64 (IntKind.u64.wrap ((a5 (IntKind.u64.wrap (s.a + s.b)) 32) + (IntKind.u64.wrap (BitVec.ofInt 64 (a5 s.d 16) ^^^ BitVec.ofInt 64 (IntKind.u64.wrap (s.c + s.d))).toNat))),.int .u64 (IntKind.u64.wrap (BitVec.ofInt 64 (a5 s.b 13) ^^^ BitVec.ofInt 64 (IntKind.u64.wrap (s.a + s.b))).toNat),.int .u64 (IntKind.u64.wrap ((IntKind.u64.wrap (s.c + s.d)) + (IntKind.u64.wrap (BitVec.ofInt 64 (a5 s.b 13) ^^^ BitVec.ofInt 64 (IntKind.u64.wrap (s.a + s.b))).toNat))),.int .u64 (IntKind.u64.wrap (BitVec.ofInt 64 (a5 (IntKind.u64.wrap (BitVec.ofInt 64 (a5 s.d 16) ^^^ BitVec.ofInt 64 (IntKind.u64.wrap (s.c + s.d))).toNat) 21) ^^^ BitVec.ofInt 64 (IntKind.u64.wrap ((a5 (IntKind.u64.wrap (s.a + s.b)) 32) + (IntKind.u64.wrap (BitVec.ofInt 64 (a5 s.d 16) ^^^ BitVec.ofInt 64 (IntKind.u64.wrap (s.c + s.d))).toNat)))).toNat)]⟩ <| kS <| cM ⟨[(1,.p 0 0),(2,.p 1 0)],[⟨170,[.int .u64 (IntKind.u64.wrap ((a5 (IntKind.u64.wrap (s.a + s.b)) 32) + (IntKind.u64.wrap (BitVec.ofInt 64 (a5 s.d 16) ^^^ BitVec.ofInt 64 (IntKind.u64.wrap (s.c + s.d))).toNat))),.int .u64 (IntKind.u64.wrap (BitVec.ofInt 64 (a5 (IntKind.u64.wrap (BitVec.ofInt 64 (a5 s.b 13) ^^^ BitVec.ofInt 64 (IntKind.u64.wrap (s.a + s.b))).toNat) 17) ^^^ BitVec.ofInt 64 (IntKind.u64.wrap ((IntKind.u64.wrap (s.c + s.d)) + (IntKind.u64.wrap (BitVec.ofInt 64 (a5 s.b 13) ^^^ BitVec.ofInt 64 (IntKind.u64.wrap (s.a + s.b))).toNat)))).toNat),.int .u64 (IntKind.u64.wrap ((IntKind.u64.wrap (s.c + s.d)) + (IntKind.u64.wrap (BitVec.ofInt 64 (a5 s.b 13) ^^^ BitVec.ofInt 64 (IntKind.u64.wrap (s.a + s.b))).toNat))),.int .u64 (IntKind.u64.wrap (BitVec.ofInt 64 (a5 (IntKind.u64.wrap (BitVec.ofInt 64 (a5 s.d 16) ^^^ BitVec.ofInt 64 (IntKind.u64.wrap (s.c + s.d))).toNat) 21) ^^^ BitVec.ofInt 64 (IntKind.u64.wrap ((a5 (IntKind.u64.wrap (s.a + s.b)) 32) + (IntKind.u64.wrap (BitVec.ofInt 64 (a5 s.d 16) ^^^ BitVec.ofInt 64 (IntKind.u64.wrap (s.c + s.d))).toNat)))).toNat)]⟩,⟨170,[.int .u64 0,.int .u64 0,.int .u64 0,.int .u64 0]⟩],[],[]⟩ ?_ ?_
 refine aN [false,true] (by kernel_rfl) (fun ρ σ => ?_)
 refine kTD [0,3] [55,52,1,2] 6 [(55,.p 0 2),(52,.p 0 1)] <| kA [1,4] ⟨?_,?_⟩
 refine dz 1 (.v (.int .u64 (IntKind.u64.wrap (BitVec.ofInt 64 (a5 s.b 13) ^^^ BitVec.ofInt 64 (IntKind.u64.wrap (s.a + s.b))).toNat))) rfl <| kA [2,4] ⟨?_,?_⟩
 refine cw 2 149 [.int .u64 (IntKind.u64.wrap (BitVec.ofInt 64 (a5 s.b 13) ^^^ BitVec.ofInt 64 (IntKind.u64.wrap (s.a + s.b))).toNat),.int .u64 17] (some 54) rfl (ai fun ww hf => yTurn17 (IntKind.u64.wrap (BitVec.ofInt 64 (a5 s.b 13) ^^^ BitVec.ofInt 64 (IntKind.u64.wrap (s.a + s.b))).toNat) ww) ?_
 intro _
 refine kA [4] <| dz 4 (.v (.int .u64 (IntKind.u64.wrap ((IntKind.u64.wrap (s.c + s.d)) + (IntKind.u64.wrap (BitVec.ofInt 64 (a5 s.b 13) ^^^ BitVec.ofInt 64 (IntKind.u64.wrap (s.a + s.b))).toNat))))) rfl <| kX 5 (.int .u64 (IntKind.u64.wrap (BitVec.ofInt 64 (a5 (IntKind.u64.wrap (BitVec.ofInt 64 (a5 s.b 13) ^^^ BitVec.ofInt 64 (IntKind.u64.wrap (s.a + s.b))).toNat) 17) ^^^ BitVec.ofInt 64 (IntKind.u64.wrap ((IntKind.u64.wrap (s.c + s.d)) + (IntKind.u64.wrap (BitVec.ofInt 64 (a5 s.b 13) ^^^ BitVec.ofInt 64 (IntKind.u64.wrap (s.a + s.b))).toNat)))).toNat)) rfl (fun _ _ ww hA => az hA rfl (by kernel_rfl) (by kernel_rfl) (am ww)) ?_
 refine kTS [6] [58,57,1,2] 1 [(58,.p 0 1),(57,.v (.int .u64 (IntKind.u64.wrap (BitVec.ofInt 64 (a5 (IntKind.u64.wrap (BitVec.ofInt 64 (a5 s.b 13) ^^^ BitVec.ofInt 64 (IntKind.u64.wrap (s.a + s.b))).toNat) 17) ^^^ BitVec.ofInt 64 (IntKind.u64.wrap ((IntKind.u64.wrap (s.c + s.d)) + (IntKind.u64.wrap (BitVec.ofInt 64 (a5 s.b 13) ^^^ BitVec.ofInt 64 (IntKind.u64.wrap (s.a + s.b))).toNat)))).toNat))),(1,.p 0 0),(2,.p 1 0)] <| kA [7] <| kSS 7 0 1 [.int .u64 (IntKind.u64.wrap (BitVec.ofInt 64 (a5 (IntKind.u64.wrap (BitVec.ofInt 64 (a5 s.b 13) ^^^ BitVec.ofInt 64 (IntKind.u64.wrap (s.a + s.b))).toNat) 17) ^^^ BitVec.ofInt 64 (IntKind.u64.wrap ((IntKind.u64.wrap (s.c + s.d)) + (IntKind.u64.wrap (BitVec.ofInt 64 (a5 s.b 13) ^^^ BitVec.ofInt 64 (IntKind.u64.wrap (s.a + s.b))).toNat)))).toNat)] rfl <| kZ ?_
 exact kF 2 0 [1,2]
 refine dz 4 (.v (.int .u64 (IntKind.u64.wrap ((IntKind.u64.wrap (s.c + s.d)) + (IntKind.u64.wrap (BitVec.ofInt 64 (a5 s.b 13) ^^^ BitVec.ofInt 64 (IntKind.u64.wrap (s.a + s.b))).toNat))))) rfl <| kA [2] <| cw 2 149 [.int .u64 (IntKind.u64.wrap (BitVec.ofInt 64 (a5 s.b 13) ^^^ BitVec.ofInt 64 (IntKind.u64.wrap (s.a + s.b))).toNat),.int .u64 17] (some 54) rfl (ai fun ww hf => yTurn17 (IntKind.u64.wrap (BitVec.ofInt 64 (a5 s.b 13) ^^^ BitVec.ofInt 64 (IntKind.u64.wrap (s.a + s.b))).toNat) ww) ?_
 intro _
 refine kX 5 (.int .u64 (IntKind.u64.wrap (BitVec.ofInt 64 (a5 (IntKind.u64.wrap (BitVec.ofInt 64 (a5 s.b 13) ^^^ BitVec.ofInt 64 (IntKind.u64.wrap (s.a + s.b))).toNat) 17) ^^^ BitVec.ofInt 64 (IntKind.u64.wrap ((IntKind.u64.wrap (s.c + s.d)) + (IntKind.u64.wrap (BitVec.ofInt 64 (a5 s.b 13) ^^^ BitVec.ofInt 64 (IntKind.u64.wrap (s.a + s.b))).toNat)))).toNat)) rfl (fun _ _ ww hA => az hA rfl (by kernel_rfl) (by kernel_rfl) (am ww)) ?_
 refine kTS [6] [58,57,1,2] 1 [(58,.p 0 1),(57,.v (.int .u64 (IntKind.u64.wrap (BitVec.ofInt 64 (a5 (IntKind.u64.wrap (BitVec.ofInt 64 (a5 s.b 13) ^^^ BitVec.ofInt 64 (IntKind.u64.wrap (s.a + s.b))).toNat) 17) ^^^ BitVec.ofInt 64 (IntKind.u64.wrap ((IntKind.u64.wrap (s.c + s.d)) + (IntKind.u64.wrap (BitVec.ofInt 64 (a5 s.b 13) ^^^ BitVec.ofInt 64 (IntKind.u64.wrap (s.a + s.b))).toNat)))).toNat))),(1,.p 0 0),(2,.p 1 0)] <| kA [7] <| kSS 7 0 1 [.int .u64 (IntKind.u64.wrap (BitVec.ofInt 64 (a5 (IntKind.u64.wrap (BitVec.ofInt 64 (a5 s.b 13) ^^^ BitVec.ofInt 64 (IntKind.u64.wrap (s.a + s.b))).toNat) 17) ^^^ BitVec.ofInt 64 (IntKind.u64.wrap ((IntKind.u64.wrap (s.c + s.d)) + (IntKind.u64.wrap (BitVec.ofInt 64 (a5 s.b 13) ^^^ BitVec.ofInt 64 (IntKind.u64.wrap (s.a + s.b))).toNat)))).toNat)] rfl <| kZ ?_
 exact kF 2 0 [1,2]
 refine dz 4 (.v (.int .u64 (IntKind.u64.wrap ((IntKind.u64.wrap (s.c + s.d)) + (IntKind.u64.wrap (BitVec.ofInt 64 (a5 s.b 13) ^^^ BitVec.ofInt 64 (IntKind.u64.wrap (s.a + s.b))).toNat))))) rfl <| kA [1] <| dz 1 (.v (.int .u64 (IntKind.u64.wrap (BitVec.ofInt 64 (a5 s.b 13) ^^^ BitVec.ofInt 64 (IntKind.u64.wrap (s.a + s.b))).toNat))) rfl <| kA [2] ?_
 refine cw 2 149 [.int .u64 (IntKind.u64.wrap (BitVec.ofInt 64 (a5 s.b 13) ^^^ BitVec.ofInt 64 (IntKind.u64.wrap (s.a + s.b))).toNat),.int .u64 17] (some 54) rfl (ai fun ww hf => yTurn17 (IntKind.u64.wrap (BitVec.ofInt 64 (a5 s.b 13) ^^^ BitVec.ofInt 64 (IntKind.u64.wrap (s.a + s.b))).toNat) ww) ?_
 intro _
 refine kX 5 (.int .u64 (IntKind.u64.wrap (BitVec.ofInt 64 (a5 (IntKind.u64.wrap (BitVec.ofInt 64 (a5 s.b 13) ^^^ BitVec.ofInt 64 (IntKind.u64.wrap (s.a + s.b))).toNat) 17) ^^^ BitVec.ofInt 64 (IntKind.u64.wrap ((IntKind.u64.wrap (s.c + s.d)) + (IntKind.u64.wrap (BitVec.ofInt 64 (a5 s.b 13) ^^^ BitVec.ofInt 64 (IntKind.u64.wrap (s.a + s.b))).toNat)))).toNat)) rfl (fun _ _ ww hA => az hA rfl (by kernel_rfl) (by kernel_rfl) (am ww)) ?_
 refine kTS [6] [58,57,1,2] 1 [(58,.p 0 1),(57,.v (.int .u64 (IntKind.u64.wrap (BitVec.ofInt 64 (a5 (IntKind.u64.wrap (BitVec.ofInt 64 (a5 s.b 13) ^^^ BitVec.ofInt 64 (IntKind.u64.wrap (s.a + s.b))).toNat) 17) ^^^ BitVec.ofInt 64 (IntKind.u64.wrap ((IntKind.u64.wrap (s.c + s.d)) + (IntKind.u64.wrap (BitVec.ofInt 64 (a5 s.b 13) ^^^ BitVec.ofInt 64 (IntKind.u64.wrap (s.a + s.b))).toNat)))).toNat))),(1,.p 0 0),(2,.p 1 0)] <| kA [7] <| kSS 7 0 1 [.int .u64 (IntKind.u64.wrap (BitVec.ofInt 64 (a5 (IntKind.u64.wrap (BitVec.ofInt 64 (a5 s.b 13) ^^^ BitVec.ofInt 64 (IntKind.u64.wrap (s.a + s.b))).toNat) 17) ^^^ BitVec.ofInt 64 (IntKind.u64.wrap ((IntKind.u64.wrap (s.c + s.d)) + (IntKind.u64.wrap (BitVec.ofInt 64 (a5 s.b 13) ^^^ BitVec.ofInt 64 (IntKind.u64.wrap (s.a + s.b))).toNat)))).toNat)] rfl <| kZ ?_
 exact kF 2 0 [1,2]
 refine kQ <| kCS 2 [1,2,60] [(1,.p 0 0),(2,.p 1 0),(60,.v (.int .u64 (IntKind.u64.wrap ((IntKind.u64.wrap (s.c + s.d)) + (IntKind.u64.wrap (BitVec.ofInt 64 (a5 s.b 13) ^^^ BitVec.ofInt 64 (IntKind.u64.wrap (s.a + s.b))).toNat)))))] 149 [.int .u64 (IntKind.u64.wrap ((IntKind.u64.wrap (s.c + s.d)) + (IntKind.u64.wrap (BitVec.ofInt 64 (a5 s.b 13) ^^^ BitVec.ofInt 64 (IntKind.u64.wrap (s.a + s.b))).toNat))),.int .u64 32] (some 61) rfl (ai fun ww hf => yTurn32 (IntKind.u64.wrap ((IntKind.u64.wrap (s.c + s.d)) + (IntKind.u64.wrap (BitVec.ofInt 64 (a5 s.b 13) ^^^ BitVec.ofInt 64 (IntKind.u64.wrap (s.a + s.b))).toNat))) ww) ?_
 intro _
 refine kEU [1,2] [] 0 ⟨170,[.int .u64 (IntKind.u64.wrap ((a5 (IntKind.u64.wrap (s.a + s.b)) 32) + (IntKind.u64.wrap (BitVec.ofInt 64 (a5 s.d 16) ^^^ BitVec.ofInt 64 (IntKind.u64.wrap (s.c + s.d))).toNat))),.int .u64 (IntKind.u64.wrap (BitVec.ofInt 64 (a5 (IntKind.u64.wrap (BitVec.ofInt 64 (a5 s.b 13) ^^^ BitVec.ofInt 64 (IntKind.u64.wrap (s.a + s.b))).toNat) 17) ^^^ BitVec.ofInt 64 (IntKind.u64.wrap ((IntKind.u64.wrap (s.c + s.d)) + (IntKind.u64.wrap (BitVec.ofInt 64 (a5 s.b 13) ^^^ BitVec.ofInt 64 (IntKind.u64.wrap (s.a + s.b))).toNat)))).toNat),.int .u64 (a5 (IntKind.u64.wrap ((IntKind.u64.wrap (s.c + s.d)) + (IntKind.u64.wrap (BitVec.ofInt 64 (a5 s.b 13) ^^^ BitVec.ofInt 64 (IntKind.u64.wrap (s.a + s.b))).toNat))) 32),.int .u64 (IntKind.u64.wrap (BitVec.ofInt 64 (a5 (IntKind.u64.wrap (BitVec.ofInt 64 (a5 s.d 16) ^^^ BitVec.ofInt 64 (IntKind.u64.wrap (s.c + s.d))).toNat) 21) ^^^ BitVec.ofInt 64 (IntKind.u64.wrap ((a5 (IntKind.u64.wrap (s.a + s.b)) 32) + (IntKind.u64.wrap (BitVec.ofInt 64 (a5 s.d 16) ^^^ BitVec.ofInt 64 (IntKind.u64.wrap (s.c + s.d))).toNat)))).toNat)]⟩ <| kQ <| kEU [2] [(2,.p 1 0)] 1 ⟨170,[.int .u64 (IntKind.u64.wrap ((a5 (IntKind.u64.wrap (s.a + s.b)) 32) + (IntKind.u64.wrap (BitVec.ofInt 64 (a5 s.d 16) ^^^ BitVec.ofInt 64 (IntKind.u64.wrap (s.c + s.d))).toNat))),.int .u64 (IntKind.u64.wrap (BitVec.ofInt 64 (a5 (IntKind.u64.wrap (BitVec.ofInt 64 (a5 s.b 13) ^^^ BitVec.ofInt 64 (IntKind.u64.wrap (s.a + s.b))).toNat) 17) ^^^ BitVec.ofInt 64 (IntKind.u64.wrap ((IntKind.u64.wrap (s.c + s.d)) + (IntKind.u64.wrap (BitVec.ofInt 64 (a5 s.b 13) ^^^ BitVec.ofInt 64 (IntKind.u64.wrap (s.a + s.b))).toNat)))).toNat),.int .u64 (a5 (IntKind.u64.wrap ((IntKind.u64.wrap (s.c + s.d)) + (IntKind.u64.wrap (BitVec.ofInt 64 (a5 s.b 13) ^^^ BitVec.ofInt 64 (IntKind.u64.wrap (s.a + s.b))).toNat))) 32),.int .u64 (IntKind.u64.wrap (BitVec.ofInt 64 (a5 (IntKind.u64.wrap (BitVec.ofInt 64 (a5 s.d 16) ^^^ BitVec.ofInt 64 (IntKind.u64.wrap (s.c + s.d))).toNat) 21) ^^^ BitVec.ofInt 64 (IntKind.u64.wrap ((a5 (IntKind.u64.wrap (s.a + s.b)) 32) + (IntKind.u64.wrap (BitVec.ofInt 64 (a5 s.d 16) ^^^ BitVec.ofInt 64 (IntKind.u64.wrap (s.c + s.d))).toNat)))).toNat)]⟩ <| kR ?_
 exact ⟨[.agg #[.int .u64 (IntKind.u64.wrap ((a5 (IntKind.u64.wrap (s.a + s.b)) 32) + (IntKind.u64.wrap (BitVec.ofInt 64 (a5 s.d 16) ^^^ BitVec.ofInt 64 (IntKind.u64.wrap (s.c + s.d))).toNat))),.int .u64 (IntKind.u64.wrap (BitVec.ofInt 64 (a5 (IntKind.u64.wrap (BitVec.ofInt 64 (a5 s.b 13) ^^^ BitVec.ofInt 64 (IntKind.u64.wrap (s.a + s.b))).toNat) 17) ^^^ BitVec.ofInt 64 (IntKind.u64.wrap ((IntKind.u64.wrap (s.c + s.d)) + (IntKind.u64.wrap (BitVec.ofInt 64 (a5 s.b 13) ^^^ BitVec.ofInt 64 (IntKind.u64.wrap (s.a + s.b))).toNat)))).toNat),.int .u64 (a5 (IntKind.u64.wrap ((IntKind.u64.wrap (s.c + s.d)) + (IntKind.u64.wrap (BitVec.ofInt 64 (a5 s.b 13) ^^^ BitVec.ofInt 64 (IntKind.u64.wrap (s.a + s.b))).toNat))) 32),.int .u64 (IntKind.u64.wrap (BitVec.ofInt 64 (a5 (IntKind.u64.wrap (BitVec.ofInt 64 (a5 s.d 16) ^^^ BitVec.ofInt 64 (IntKind.u64.wrap (s.c + s.d))).toNat) 21) ^^^ BitVec.ofInt 64 (IntKind.u64.wrap ((a5 (IntKind.u64.wrap (s.a + s.b)) 32) + (IntKind.u64.wrap (BitVec.ofInt 64 (a5 s.d 16) ^^^ BitVec.ofInt 64 (IntKind.u64.wrap (s.c + s.d))).toNat)))).toNat)]],by kernel_rfl,fun w' hb hf => ⟨by first | rfl | (rw [hend]; rfl),hb⟩⟩
theorem ysSipWord_c (s : Sip) (m : Int) (w : World)  : Calls Try.prog 131 #[.agg (aX s).toArray, .int .u64 m] w fun e w' => e = .returned (.agg (aX (aM s m)).toArray) ∧ Below w.heap.size w w' := by
 refine aq (args := [.agg (aX s).toArray,.int .u64 m]) (fn := Try.f131) [] Try.func131 rfl Try.ntmps131 rfl (by simp) ?_
 refine kQ <| bH [1,2,4] ⟨[(1,.v (.int .u64 m)),(2,.p 0 0),(4,.p 1 0)],[⟨170,aX s⟩,⟨170,[.int .u64 0,.int .u64 0,.int .u64 0,.int .u64 0]⟩],[],[]⟩ <| kQ <| cU 3 [1,2,4,6,7] [(6,.v (.int .u64 s.d)),(7,.v (.int .u64 m))] (.int .u64 (IntKind.u64.wrap (BitVec.ofInt 64 s.d ^^^ BitVec.ofInt 64 m).toNat)) rfl (fun _ _ _ ww hr => az hr.1 rfl (by kernel_rfl) (by kernel_rfl) (am ww)) ?_
 refine kEU [1,2,4] [] 0 ⟨170,aX { s with d := IntKind.u64.wrap (BitVec.ofInt 64 s.d ^^^ BitVec.ofInt 64 m).toNat }⟩ <| kQ <| ci 1 [1,2,4,10] [(10,.v (.agg (aX { s with d := IntKind.u64.wrap (BitVec.ofInt 64 s.d ^^^ BitVec.ofInt 64 m).toNat }).toArray))] 144 [.agg (aX { s with d := IntKind.u64.wrap (BitVec.ofInt 64 s.d ^^^ BitVec.ofInt 64 m).toNat }).toArray] (some 11) rfl (ai fun ww hf => cv ({ s with d := IntKind.u64.wrap (BitVec.ofInt 64 s.d ^^^ BitVec.ofInt 64 m).toNat }) ww) ?_
 intro _
 refine ci 0 [1,2,4,11] [] 144 [.agg (aX (a7 ({ s with d := IntKind.u64.wrap (BitVec.ofInt 64 s.d ^^^ BitVec.ofInt 64 m).toNat }))).toArray] (some 12) rfl (ai fun ww hf => cv (a7 ({ s with d := IntKind.u64.wrap (BitVec.ofInt 64 s.d ^^^ BitVec.ofInt 64 m).toNat })) ww) ?_
 intro _
 refine kEU [1,2,4] [] 0 ⟨170,aX (a7 (a7 ({ s with d := IntKind.u64.wrap (BitVec.ofInt 64 s.d ^^^ BitVec.ofInt 64 m).toNat })))⟩ <| kQ <| cU 3 [2,4,14,15] [(14,.v (.int .u64 ((a7 (a7 ({ s with d := IntKind.u64.wrap (BitVec.ofInt 64 s.d ^^^ BitVec.ofInt 64 m).toNat }))).a))),(15,.v (.int .u64 m))] (.int .u64 (IntKind.u64.wrap (BitVec.ofInt 64 ((a7 (a7 ({ s with d := IntKind.u64.wrap (BitVec.ofInt 64 s.d ^^^ BitVec.ofInt 64 m).toNat }))).a) ^^^ BitVec.ofInt 64 m).toNat)) rfl (fun _ _ _ ww hr => az hr.1 rfl (by kernel_rfl) (by kernel_rfl) (am ww)) ?_
 refine kEU [2,4] [] 0 ⟨170,aX { (a7 (a7 ({ s with d := IntKind.u64.wrap (BitVec.ofInt 64 s.d ^^^ BitVec.ofInt 64 m).toNat }))) with a := IntKind.u64.wrap (BitVec.ofInt 64 ((a7 (a7 ({ s with d := IntKind.u64.wrap (BitVec.ofInt 64 s.d ^^^ BitVec.ofInt 64 m).toNat }))).a) ^^^ BitVec.ofInt 64 m).toNat }⟩ <| kQ <| kEU [4] [(4,.p 1 0)] 1 ⟨170,aX { (a7 (a7 ({ s with d := IntKind.u64.wrap (BitVec.ofInt 64 s.d ^^^ BitVec.ofInt 64 m).toNat }))) with a := IntKind.u64.wrap (BitVec.ofInt 64 ((a7 (a7 ({ s with d := IntKind.u64.wrap (BitVec.ofInt 64 s.d ^^^ BitVec.ofInt 64 m).toNat }))).a) ^^^ BitVec.ofInt 64 m).toNat }⟩ <| kR ?_
 exact ⟨[.agg (aX { (a7 (a7 ({ s with d := IntKind.u64.wrap (BitVec.ofInt 64 s.d ^^^ BitVec.ofInt 64 m).toNat }))) with a := IntKind.u64.wrap (BitVec.ofInt 64 ((a7 (a7 ({ s with d := IntKind.u64.wrap (BitVec.ofInt 64 s.d ^^^ BitVec.ofInt 64 m).toNat }))).a) ^^^ BitVec.ofInt 64 m).toNat }).toArray],by kernel_rfl,fun w' hb hf => ⟨by first | rfl | (rw [hend]; rfl),hb⟩⟩
theorem yiSipStart_c (k : Int) (l : Int) (w : World)  : Calls Try.prog 134 #[.int .u64 k, .int .u64 l] w fun e w' => e = .returned (.agg (aX (ca k l)).toArray) ∧ Below w.heap.size w w' := by
 refine aq (args := [.int .u64 k,.int .u64 l]) (fn := Try.f134) [] Try.func134 rfl Try.ntmps134 rfl (by simp) ?_
 refine kQ <| bH [0,1,4] ⟨[(0,.v (.int .u64 k)),(1,.v (.int .u64 l)),(4,.p 0 0)],[⟨170,[.int .u64 0,.int .u64 0,.int .u64 0,.int .u64 0]⟩],[],[]⟩ <| kQ <| cU 1 [0,1,4,5] [(5,.v (.int .u64 k))] (.int .u64 (IntKind.u64.wrap (BitVec.ofInt 64 k ^^^ BitVec.ofInt 64 8317987319222330741).toNat)) rfl (fun _ _ _ ww hr => az hr.1 rfl (by kernel_rfl) (by kernel_rfl) (am ww)) ?_
 refine cU 1 [0,1,4,6,7] [(7,.v (.int .u64 l))] (.int .u64 (IntKind.u64.wrap (BitVec.ofInt 64 l ^^^ BitVec.ofInt 64 7237128888997146477).toNat)) rfl (fun _ _ _ ww hr => az hr.1 rfl (by kernel_rfl) (by kernel_rfl) (am ww)) ?_
 refine cU 1 [1,4,6,8,9] [(9,.v (.int .u64 k))] (.int .u64 (IntKind.u64.wrap (BitVec.ofInt 64 k ^^^ BitVec.ofInt 64 7816392313619706465).toNat)) rfl (fun _ _ _ ww hr => az hr.1 rfl (by kernel_rfl) (by kernel_rfl) (am ww)) ?_
 refine cU 1 [4,6,8,10,11] [(11,.v (.int .u64 l))] (.int .u64 (IntKind.u64.wrap (BitVec.ofInt 64 l ^^^ BitVec.ofInt 64 8387220255154660723).toNat)) rfl (fun _ _ _ ww hr => az hr.1 rfl (by kernel_rfl) (by kernel_rfl) (am ww)) ?_
 refine cU 0 [4,6,8,10,12] [] (.agg #[.int .u64 (IntKind.u64.wrap (BitVec.ofInt 64 k ^^^ BitVec.ofInt 64 8317987319222330741).toNat),.int .u64 (IntKind.u64.wrap (BitVec.ofInt 64 l ^^^ BitVec.ofInt 64 7237128888997146477).toNat),.int .u64 (IntKind.u64.wrap (BitVec.ofInt 64 k ^^^ BitVec.ofInt 64 7816392313619706465).toNat),.int .u64 (IntKind.u64.wrap (BitVec.ofInt 64 l ^^^ BitVec.ofInt 64 8387220255154660723).toNat)]) rfl (fun _ _ _ ww hr => act_build [(0,.int .u64 (IntKind.u64.wrap (BitVec.ofInt 64 k ^^^ BitVec.ofInt 64 8317987319222330741).toNat)),(1,.int .u64 (IntKind.u64.wrap (BitVec.ofInt 64 l ^^^ BitVec.ofInt 64 7237128888997146477).toNat)),(2,.int .u64 (IntKind.u64.wrap (BitVec.ofInt 64 k ^^^ BitVec.ofInt 64 7816392313619706465).toNat)),(3,.int .u64 (IntKind.u64.wrap (BitVec.ofInt 64 l ^^^ BitVec.ofInt 64 8387220255154660723).toNat))] hr.1 rfl (by kernel_rfl) (by kernel_rfl) ww) ?_
 refine kEU [4] [(4,.p 0 0)] 0 ⟨170,[.int .u64 (IntKind.u64.wrap (BitVec.ofInt 64 k ^^^ BitVec.ofInt 64 8317987319222330741).toNat),.int .u64 (IntKind.u64.wrap (BitVec.ofInt 64 l ^^^ BitVec.ofInt 64 7237128888997146477).toNat),.int .u64 (IntKind.u64.wrap (BitVec.ofInt 64 k ^^^ BitVec.ofInt 64 7816392313619706465).toNat),.int .u64 (IntKind.u64.wrap (BitVec.ofInt 64 l ^^^ BitVec.ofInt 64 8387220255154660723).toNat)]⟩ <| kR ?_
 exact ⟨[.agg #[.int .u64 (IntKind.u64.wrap (BitVec.ofInt 64 k ^^^ BitVec.ofInt 64 8317987319222330741).toNat),.int .u64 (IntKind.u64.wrap (BitVec.ofInt 64 l ^^^ BitVec.ofInt 64 7237128888997146477).toNat),.int .u64 (IntKind.u64.wrap (BitVec.ofInt 64 k ^^^ BitVec.ofInt 64 7816392313619706465).toNat),.int .u64 (IntKind.u64.wrap (BitVec.ofInt 64 l ^^^ BitVec.ofInt 64 8387220255154660723).toNat)]],by kernel_rfl,fun w' hb hf => ⟨by first | rfl | (rw [hend]; rfl),hb⟩⟩
theorem dt (s : Sip) (w : World)  : Calls Try.prog 145 #[.agg (aX s).toArray] w fun e w' => e = .returned (.agg (aX (a7 s)).toArray) ∧ Below w.heap.size w w' := by
 refine aq (args := [.agg (aX s).toArray]) (fn := Try.f145) [] Try.func145 rfl Try.ntmps145 rfl (by simp) ?_
 refine kQ <| bH [1,2] ⟨[(1,.p 0 0),(2,.p 1 0)],[⟨170,aX s⟩,⟨170,[.int .u64 0,.int .u64 0,.int .u64 0,.int .u64 0]⟩],[],[]⟩ <| kQ <| kEU [1,2] [] 0 ⟨170,aX { s with a := IntKind.u64.wrap (s.a + s.b) }⟩ ?_
 refine kS <| cM ⟨[(1,.p 0 0),(2,.p 1 0)],[⟨170,aX { s with a := IntKind.u64.wrap (s.a + s.b),b := IntKind.u64.wrap (BitVec.ofInt 64 (a5 s.b 13) ^^^ BitVec.ofInt 64 (IntKind.u64.wrap (s.a + s.b))).toNat }⟩,⟨170,[.int .u64 0,.int .u64 0,.int .u64 0,.int .u64 0]⟩],[],[]⟩ ?_ ?_
 refine aN [false,true] (by kernel_rfl) (fun ρ σ => ?_)
 refine kTD [0,3] [12,9,1,2] 6 [(12,.p 0 0),(9,.p 0 1)] <| kA [1,4] ⟨?_,?_⟩
 refine dz 1 (.v (.int .u64 s.b)) rfl <| kA [2,4] ⟨?_,?_⟩
 refine cw 2 150 [.int .u64 s.b,iI 13] (some 11) rfl (ai fun ww hf => yRotI13 s.b ww) ?_
 intro _
 refine kA [4] <| dz 4 (.v (.int .u64 (IntKind.u64.wrap (s.a + s.b)))) rfl <| kX 5 (.int .u64 (IntKind.u64.wrap (BitVec.ofInt 64 (a5 s.b 13) ^^^ BitVec.ofInt 64 (IntKind.u64.wrap (s.a + s.b))).toNat)) rfl (fun _ _ ww hA => az hA rfl (by kernel_rfl) (by kernel_rfl) (am ww)) ?_
 refine kTD [6] [15,14,1,2] 1 [(15,.p 0 1),(14,.v (.int .u64 (IntKind.u64.wrap (BitVec.ofInt 64 (a5 s.b 13) ^^^ BitVec.ofInt 64 (IntKind.u64.wrap (s.a + s.b))).toNat)))] <| kA [7] <| kSS 7 0 1 [.int .u64 (IntKind.u64.wrap (BitVec.ofInt 64 (a5 s.b 13) ^^^ BitVec.ofInt 64 (IntKind.u64.wrap (s.a + s.b))).toNat)] rfl <| kZ ?_
 exact kF 2 0 [1,2]
 refine dz 4 (.v (.int .u64 (IntKind.u64.wrap (s.a + s.b)))) rfl <| kA [2] <| cw 2 150 [.int .u64 s.b,iI 13] (some 11) rfl (ai fun ww hf => yRotI13 s.b ww) ?_
 intro _
 refine kX 5 (.int .u64 (IntKind.u64.wrap (BitVec.ofInt 64 (a5 s.b 13) ^^^ BitVec.ofInt 64 (IntKind.u64.wrap (s.a + s.b))).toNat)) rfl (fun _ _ ww hA => az hA rfl (by kernel_rfl) (by kernel_rfl) (am ww)) ?_
 refine kTD [6] [15,14,1,2] 1 [(15,.p 0 1),(14,.v (.int .u64 (IntKind.u64.wrap (BitVec.ofInt 64 (a5 s.b 13) ^^^ BitVec.ofInt 64 (IntKind.u64.wrap (s.a + s.b))).toNat)))] <| kA [7] <| kSS 7 0 1 [.int .u64 (IntKind.u64.wrap (BitVec.ofInt 64 (a5 s.b 13) ^^^ BitVec.ofInt 64 (IntKind.u64.wrap (s.a + s.b))).toNat)] rfl <| kZ ?_
 exact kF 2 0 [1,2]
 refine dz 4 (.v (.int .u64 (IntKind.u64.wrap (s.a + s.b)))) rfl <| kA [1] <| dz 1 (.v (.int .u64 s.b)) rfl <| kA [2] ?_
 refine cw 2 150 [.int .u64 s.b,iI 13] (some 11) rfl (ai fun ww hf => yRotI13 s.b ww) ?_
 intro _
 refine kX 5 (.int .u64 (IntKind.u64.wrap (BitVec.ofInt 64 (a5 s.b 13) ^^^ BitVec.ofInt 64 (IntKind.u64.wrap (s.a + s.b))).toNat)) rfl (fun _ _ ww hA => az hA rfl (by kernel_rfl) (by kernel_rfl) (am ww)) ?_
 refine kTD [6] [15,14,1,2] 1 [(15,.p 0 1),(14,.v (.int .u64 (IntKind.u64.wrap (BitVec.ofInt 64 (a5 s.b 13) ^^^ BitVec.ofInt 64 (IntKind.u64.wrap (s.a + s.b))).toNat)))] <| kA [7] <| kSS 7 0 1 [.int .u64 (IntKind.u64.wrap (BitVec.ofInt 64 (a5 s.b 13) ^^^ BitVec.ofInt 64 (IntKind.u64.wrap (s.a + s.b))).toNat)] rfl <| kZ ?_
 exact kF 2 0 [1,2]
 refine kQ <| ci 2 [1,2,17] [(17,.v (.int .u64 (IntKind.u64.wrap (s.a + s.b))))] 150 [.int .u64 (IntKind.u64.wrap (s.a + s.b)),iI 32] (some 18) rfl (ai fun ww hf => yRotI32 (IntKind.u64.wrap (s.a + s.b)) ww) ?_
 intro _
 refine kEU [1,2] [] 0 ⟨170,aX { s with a := a5 (IntKind.u64.wrap (s.a + s.b)) 32,b := IntKind.u64.wrap (BitVec.ofInt 64 (a5 s.b 13) ^^^ BitVec.ofInt 64 (IntKind.u64.wrap (s.a + s.b))).toNat }⟩ <| kQ <| kEU [1,2] [] 0 ⟨170,[.int .u64 (a5 (IntKind.u64.wrap (s.a + s.b)) 32),.int .u64 (IntKind.u64.wrap (BitVec.ofInt 64 (a5 s.b 13) ^^^ BitVec.ofInt 64 (IntKind.u64.wrap (s.a + s.b))).toNat),.int .u64 (IntKind.u64.wrap (s.c + s.d)),.int .u64 s.d]⟩ <| kS <| cM ⟨[(1,.p 0 0),(2,.p 1 0)],[⟨170,[.int .u64 (a5 (IntKind.u64.wrap (s.a + s.b)) 32),.int .u64 (IntKind.u64.wrap (BitVec.ofInt 64 (a5 s.b 13) ^^^ BitVec.ofInt 64 (IntKind.u64.wrap (s.a + s.b))).toNat),.int .u64 (IntKind.u64.wrap (s.c + s.d)),.int .u64 (IntKind.u64.wrap (BitVec.ofInt 64 (a5 s.d 16) ^^^ BitVec.ofInt 64 (IntKind.u64.wrap (s.c + s.d))).toNat)]⟩,⟨170,[.int .u64 0,.int .u64 0,.int .u64 0,.int .u64 0]⟩],[],[]⟩ ?_ ?_
 refine aN [false,true] (by kernel_rfl) (fun ρ σ => ?_)
 refine kTD [0,3] [29,26,1,2] 6 [(29,.p 0 2),(26,.p 0 3)] <| kA [1,4] ⟨?_,?_⟩
 refine dz 1 (.v (.int .u64 s.d)) rfl <| kA [2,4] ⟨?_,?_⟩
 refine cw 2 150 [.int .u64 s.d,iI 16] (some 28) rfl (ai fun ww hf => yRotI16 s.d ww) ?_
 intro _
 refine kA [4] <| dz 4 (.v (.int .u64 (IntKind.u64.wrap (s.c + s.d)))) rfl <| kX 5 (.int .u64 (IntKind.u64.wrap (BitVec.ofInt 64 (a5 s.d 16) ^^^ BitVec.ofInt 64 (IntKind.u64.wrap (s.c + s.d))).toNat)) rfl (fun _ _ ww hA => az hA rfl (by kernel_rfl) (by kernel_rfl) (am ww)) ?_
 refine kTD [6] [32,31,1,2] 1 [(32,.p 0 3),(31,.v (.int .u64 (IntKind.u64.wrap (BitVec.ofInt 64 (a5 s.d 16) ^^^ BitVec.ofInt 64 (IntKind.u64.wrap (s.c + s.d))).toNat)))] <| kA [7] <| kSS 7 0 3 [.int .u64 (IntKind.u64.wrap (BitVec.ofInt 64 (a5 s.d 16) ^^^ BitVec.ofInt 64 (IntKind.u64.wrap (s.c + s.d))).toNat)] rfl <| kZ ?_
 exact kF 2 0 [1,2]
 refine dz 4 (.v (.int .u64 (IntKind.u64.wrap (s.c + s.d)))) rfl <| kA [2] <| cw 2 150 [.int .u64 s.d,iI 16] (some 28) rfl (ai fun ww hf => yRotI16 s.d ww) ?_
 intro _
 refine kX 5 (.int .u64 (IntKind.u64.wrap (BitVec.ofInt 64 (a5 s.d 16) ^^^ BitVec.ofInt 64 (IntKind.u64.wrap (s.c + s.d))).toNat)) rfl (fun _ _ ww hA => az hA rfl (by kernel_rfl) (by kernel_rfl) (am ww)) ?_
 refine kTD [6] [32,31,1,2] 1 [(32,.p 0 3),(31,.v (.int .u64 (IntKind.u64.wrap (BitVec.ofInt 64 (a5 s.d 16) ^^^ BitVec.ofInt 64 (IntKind.u64.wrap (s.c + s.d))).toNat)))] <| kA [7] <| kSS 7 0 3 [.int .u64 (IntKind.u64.wrap (BitVec.ofInt 64 (a5 s.d 16) ^^^ BitVec.ofInt 64 (IntKind.u64.wrap (s.c + s.d))).toNat)] rfl <| kZ ?_
 exact kF 2 0 [1,2]
 refine dz 4 (.v (.int .u64 (IntKind.u64.wrap (s.c + s.d)))) rfl <| kA [1] <| dz 1 (.v (.int .u64 s.d)) rfl <| kA [2] ?_
 refine cw 2 150 [.int .u64 s.d,iI 16] (some 28) rfl (ai fun ww hf => yRotI16 s.d ww) ?_
 intro _
 refine kX 5 (.int .u64 (IntKind.u64.wrap (BitVec.ofInt 64 (a5 s.d 16) ^^^ BitVec.ofInt 64 (IntKind.u64.wrap (s.c + s.d))).toNat)) rfl (fun _ _ ww hA => az hA rfl (by kernel_rfl) (by kernel_rfl) (am ww)) ?_
 refine kTD [6] [32,31,1,2] 1 [(32,.p 0 3),(31,.v (.int .u64 (IntKind.u64.wrap (BitVec.ofInt 64 (a5 s.d 16) ^^^ BitVec.ofInt 64 (IntKind.u64.wrap (s.c + s.d))).toNat)))] <| kA [7] <| kSS 7 0 3 [.int .u64 (IntKind.u64.wrap (BitVec.ofInt 64 (a5 s.d 16) ^^^ BitVec.ofInt 64 (IntKind.u64.wrap (s.c + s.d))).toNat)] rfl <| kZ ?_
 exact kF 2 0 [1,2]
 refine kQ <| kEU [1,2] [] 0 ⟨170,[.int .u64 (IntKind.u64.wrap ((a5 (IntKind.u64.wrap (s.a + s.b)) 32) + (IntKind.u64.wrap (BitVec.ofInt 64 (a5 s.d 16) ^^^ BitVec.ofInt 64 (IntKind.u64.wrap (s.c + s.d))).toNat))),.int .u64 (IntKind.u64.wrap (BitVec.ofInt 64 (a5 s.b 13) ^^^ BitVec.ofInt 64 (IntKind.u64.wrap (s.a + s.b))).toNat),.int .u64 (IntKind.u64.wrap (s.c + s.d)),.int .u64 (IntKind.u64.wrap (BitVec.ofInt 64 (a5 s.d 16) ^^^ BitVec.ofInt 64 (IntKind.u64.wrap (s.c + s.d))).toNat)]⟩ <| kS <| cM ⟨[(1,.p 0 0),(2,.p 1 0)],[⟨170,[.int .u64 (IntKind.u64.wrap ((a5 (IntKind.u64.wrap (s.a + s.b)) 32) + (IntKind.u64.wrap (BitVec.ofInt 64 (a5 s.d 16) ^^^ BitVec.ofInt 64 (IntKind.u64.wrap (s.c + s.d))).toNat))),.int .u64 (IntKind.u64.wrap (BitVec.ofInt 64 (a5 s.b 13) ^^^ BitVec.ofInt 64 (IntKind.u64.wrap (s.a + s.b))).toNat),.int .u64 (IntKind.u64.wrap (s.c + s.d)),.int .u64 (IntKind.u64.wrap (BitVec.ofInt 64 (a5 (IntKind.u64.wrap (BitVec.ofInt 64 (a5 s.d 16) ^^^ BitVec.ofInt 64 (IntKind.u64.wrap (s.c + s.d))).toNat) 21) ^^^ BitVec.ofInt 64 (IntKind.u64.wrap ((a5 (IntKind.u64.wrap (s.a + s.b)) 32) + (IntKind.u64.wrap (BitVec.ofInt 64 (a5 s.d 16) ^^^ BitVec.ofInt 64 (IntKind.u64.wrap (s.c + s.d))).toNat)))).toNat)]⟩,⟨170,[.int .u64 0,.int .u64 0,.int .u64 0,.int .u64 0]⟩],[],[]⟩ ?_ ?_
 refine aN [false,true] (by kernel_rfl) (fun ρ σ => ?_)
 refine kTD [0,3] [42,39,1,2] 6 [(42,.p 0 0),(39,.p 0 3)] <| kA [1,4] ⟨?_,?_⟩
 refine dz 1 (.v (.int .u64 (IntKind.u64.wrap (BitVec.ofInt 64 (a5 s.d 16) ^^^ BitVec.ofInt 64 (IntKind.u64.wrap (s.c + s.d))).toNat))) rfl <| kA [2,4] ⟨?_,?_⟩
 refine cw 2 150 [.int .u64 (IntKind.u64.wrap (BitVec.ofInt 64 (a5 s.d 16) ^^^ BitVec.ofInt 64 (IntKind.u64.wrap (s.c + s.d))).toNat),iI 21] (some 41) rfl (ai fun ww hf => yRotI21 (IntKind.u64.wrap (BitVec.ofInt 64 (a5 s.d 16) ^^^ BitVec.ofInt 64 (IntKind.u64.wrap (s.c + s.d))).toNat) ww) ?_
 intro _
 refine kA [4] <| dz 4 (.v (.int .u64 (IntKind.u64.wrap ((a5 (IntKind.u64.wrap (s.a + s.b)) 32) + (IntKind.u64.wrap (BitVec.ofInt 64 (a5 s.d 16) ^^^ BitVec.ofInt 64 (IntKind.u64.wrap (s.c + s.d))).toNat))))) rfl <| kX 5 (.int .u64 (IntKind.u64.wrap (BitVec.ofInt 64 (a5 (IntKind.u64.wrap (BitVec.ofInt 64 (a5 s.d 16) ^^^ BitVec.ofInt 64 (IntKind.u64.wrap (s.c + s.d))).toNat) 21) ^^^ BitVec.ofInt 64 (IntKind.u64.wrap ((a5 (IntKind.u64.wrap (s.a + s.b)) 32) + (IntKind.u64.wrap (BitVec.ofInt 64 (a5 s.d 16) ^^^ BitVec.ofInt 64 (IntKind.u64.wrap (s.c + s.d))).toNat)))).toNat)) rfl (fun _ _ ww hA => az hA rfl (by kernel_rfl) (by kernel_rfl) (am ww)) ?_
 refine kTD [6] [45,44,1,2] 1 [(45,.p 0 3),(44,.v (.int .u64 (IntKind.u64.wrap (BitVec.ofInt 64 (a5 (IntKind.u64.wrap (BitVec.ofInt 64 (a5 s.d 16) ^^^ BitVec.ofInt 64 (IntKind.u64.wrap (s.c + s.d))).toNat) 21) ^^^ BitVec.ofInt 64 (IntKind.u64.wrap ((a5 (IntKind.u64.wrap (s.a + s.b)) 32) + (IntKind.u64.wrap (BitVec.ofInt 64 (a5 s.d 16) ^^^ BitVec.ofInt 64 (IntKind.u64.wrap (s.c + s.d))).toNat)))).toNat)))] <| kA [7] <| kSS 7 0 3 [.int .u64 (IntKind.u64.wrap (BitVec.ofInt 64 (a5 (IntKind.u64.wrap (BitVec.ofInt 64 (a5 s.d 16) ^^^ BitVec.ofInt 64 (IntKind.u64.wrap (s.c + s.d))).toNat) 21) ^^^ BitVec.ofInt 64 (IntKind.u64.wrap ((a5 (IntKind.u64.wrap (s.a + s.b)) 32) + (IntKind.u64.wrap (BitVec.ofInt 64 (a5 s.d 16) ^^^ BitVec.ofInt 64 (IntKind.u64.wrap (s.c + s.d))).toNat)))).toNat)] rfl <| kZ ?_
 exact kF 2 0 [1,2]
 refine dz 4 (.v (.int .u64 (IntKind.u64.wrap ((a5 (IntKind.u64.wrap (s.a + s.b)) 32) + (IntKind.u64.wrap (BitVec.ofInt 64 (a5 s.d 16) ^^^ BitVec.ofInt 64 (IntKind.u64.wrap (s.c + s.d))).toNat))))) rfl <| kA [2] <| cw 2 150 [.int .u64 (IntKind.u64.wrap (BitVec.ofInt 64 (a5 s.d 16) ^^^ BitVec.ofInt 64 (IntKind.u64.wrap (s.c + s.d))).toNat),iI 21] (some 41) rfl (ai fun ww hf => yRotI21 (IntKind.u64.wrap (BitVec.ofInt 64 (a5 s.d 16) ^^^ BitVec.ofInt 64 (IntKind.u64.wrap (s.c + s.d))).toNat) ww) ?_
 intro _
 refine kX 5 (.int .u64 (IntKind.u64.wrap (BitVec.ofInt 64 (a5 (IntKind.u64.wrap (BitVec.ofInt 64 (a5 s.d 16) ^^^ BitVec.ofInt 64 (IntKind.u64.wrap (s.c + s.d))).toNat) 21) ^^^ BitVec.ofInt 64 (IntKind.u64.wrap ((a5 (IntKind.u64.wrap (s.a + s.b)) 32) + (IntKind.u64.wrap (BitVec.ofInt 64 (a5 s.d 16) ^^^ BitVec.ofInt 64 (IntKind.u64.wrap (s.c + s.d))).toNat)))).toNat)) rfl (fun _ _ ww hA => az hA rfl (by kernel_rfl) (by kernel_rfl) (am ww)) ?_
 refine kTD [6] [45,44,1,2] 1 [(45,.p 0 3),(44,.v (.int .u64 (IntKind.u64.wrap (BitVec.ofInt 64 (a5 (IntKind.u64.wrap (BitVec.ofInt 64 (a5 s.d 16) ^^^ BitVec.ofInt 64 (IntKind.u64.wrap (s.c + s.d))).toNat) 21) ^^^ BitVec.ofInt 64 (IntKind.u64.wrap ((a5 (IntKind.u64.wrap (s.a + s.b)) 32) + (IntKind.u64.wrap (BitVec.ofInt 64 (a5 s.d 16) ^^^ BitVec.ofInt 64 (IntKind.u64.wrap (s.c + s.d))).toNat)))).toNat)))] <| kA [7] <| kSS 7 0 3 [.int .u64 (IntKind.u64.wrap (BitVec.ofInt 64 (a5 (IntKind.u64.wrap (BitVec.ofInt 64 (a5 s.d 16) ^^^ BitVec.ofInt 64 (IntKind.u64.wrap (s.c + s.d))).toNat) 21) ^^^ BitVec.ofInt 64 (IntKind.u64.wrap ((a5 (IntKind.u64.wrap (s.a + s.b)) 32) + (IntKind.u64.wrap (BitVec.ofInt 64 (a5 s.d 16) ^^^ BitVec.ofInt 64 (IntKind.u64.wrap (s.c + s.d))).toNat)))).toNat)] rfl <| kZ ?_
 exact kF 2 0 [1,2]
 refine dz 4 (.v (.int .u64 (IntKind.u64.wrap ((a5 (IntKind.u64.wrap (s.a + s.b)) 32) + (IntKind.u64.wrap (BitVec.ofInt 64 (a5 s.d 16) ^^^ BitVec.ofInt 64 (IntKind.u64.wrap (s.c + s.d))).toNat))))) rfl <| kA [1] <| dz 1 (.v (.int .u64 (IntKind.u64.wrap (BitVec.ofInt 64 (a5 s.d 16) ^^^ BitVec.ofInt 64 (IntKind.u64.wrap (s.c + s.d))).toNat))) rfl <| kA [2] ?_
 refine cw 2 150 [.int .u64 (IntKind.u64.wrap (BitVec.ofInt 64 (a5 s.d 16) ^^^ BitVec.ofInt 64 (IntKind.u64.wrap (s.c + s.d))).toNat),iI 21] (some 41) rfl (ai fun ww hf => yRotI21 (IntKind.u64.wrap (BitVec.ofInt 64 (a5 s.d 16) ^^^ BitVec.ofInt 64 (IntKind.u64.wrap (s.c + s.d))).toNat) ww) ?_
 intro _
 refine kX 5 (.int .u64 (IntKind.u64.wrap (BitVec.ofInt 64 (a5 (IntKind.u64.wrap (BitVec.ofInt 64 (a5 s.d 16) ^^^ BitVec.ofInt 64 (IntKind.u64.wrap (s.c + s.d))).toNat) 21) ^^^ BitVec.ofInt 64 (IntKind.u64.wrap ((a5 (IntKind.u64.wrap (s.a + s.b)) 32) + (IntKind.u64.wrap (BitVec.ofInt 64 (a5 s.d 16) ^^^ BitVec.ofInt 64 (IntKind.u64.wrap (s.c + s.d))).toNat)))).toNat)) rfl (fun _ _ ww hA => az hA rfl (by kernel_rfl) (by kernel_rfl) (am ww)) ?_
 refine kTD [6] [45,44,1,2] 1 [(45,.p 0 3),(44,.v (.int .u64 (IntKind.u64.wrap (BitVec.ofInt 64 (a5 (IntKind.u64.wrap (BitVec.ofInt 64 (a5 s.d 16) ^^^ BitVec.ofInt 64 (IntKind.u64.wrap (s.c + s.d))).toNat) 21) ^^^ BitVec.ofInt 64 (IntKind.u64.wrap ((a5 (IntKind.u64.wrap (s.a + s.b)) 32) + (IntKind.u64.wrap (BitVec.ofInt 64 (a5 s.d 16) ^^^ BitVec.ofInt 64 (IntKind.u64.wrap (s.c + s.d))).toNat)))).toNat)))] <| kA [7] <| kSS 7 0 3 [.int .u64 (IntKind.u64.wrap (BitVec.ofInt 64 (a5 (IntKind.u64.wrap (BitVec.ofInt 64 (a5 s.d 16) ^^^ BitVec.ofInt 64 (IntKind.u64.wrap (s.c + s.d))).toNat) 21) ^^^ BitVec.ofInt 64 (IntKind.u64.wrap ((a5 (IntKind.u64.wrap (s.a + s.b)) 32) + (IntKind.u64.wrap (BitVec.ofInt 64 (a5 s.d 16) ^^^ BitVec.ofInt 64 (IntKind.u64.wrap (s.c + s.d))).toNat)))).toNat)] rfl <| kZ ?_
 exact kF 2 0 [1,2]
 refine kQ <| kEU [1,2] [] 0 ⟨170,[.int .u64 (IntKind.u64.wrap ((a5 (IntKind.u64.wrap (s.a + s.b)) 32) + (IntKind.u64.wrap (BitVec.ofInt 64 (a5 s.d 16) ^^^ BitVec.ofInt 64 (IntKind.u64.wrap (s.c + s.d))).toNat))),.int .u64 (IntKind.u64.wrap (BitVec.ofInt 64 (a5 s.b 13) ^^^ BitVec.ofInt 64 (IntKind.u64.wrap (s.a + s.b))).toNat),.int .u64 (IntKind.u64.wrap ((IntKind.u64.wrap (s.c + s.d)) + (IntKind.u64.wrap (BitVec.ofInt 64 (a5 s.b 13) ^^^ BitVec.ofInt 64 (IntKind.u64.wrap (s.a + s.b))).toNat))),.int .u64 (IntKind.u64.wrap (BitVec.ofInt 64 (a5 (IntKind.u64.wrap (BitVec.ofInt 64 (a5 s.d 16) ^^^ BitVec.ofInt 64 (IntKind.u64.wrap (s.c + s.d))).toNat) 21) ^^^ BitVec.ofInt 64 (IntKind.u64.wrap ((a5 (IntKind.u64.wrap (s.a + s.b)) 32) + (IntKind.u64.wrap (BitVec.ofInt 64 (a5 s.d 16) ^^^ BitVec.ofInt 64 (IntKind.u64.wrap (s.c + s.d))).toNat)))).toNat)]⟩ <| kS <| cM ⟨[(1,.p 0 0),(2,.p 1 0)],[⟨170,[.int .u64 (IntKind.u64.wrap ((a5 (IntKind.u64.wrap (s.a + s.b)) 32) + (IntKind.u64.wrap (BitVec.ofInt 64 (a5 s.d 16) ^^^ BitVec.ofInt 64 (IntKind.u64.wrap (s.c + s.d))).toNat))),.int .u64 (IntKind.u64.wrap (BitVec.ofInt 64 (a5 (IntKind.u64.wrap (BitVec.ofInt 64 (a5 s.b 13) ^^^ BitVec.ofInt 64 (IntKind.u64.wrap (s.a + s.b))).toNat) 17) ^^^ BitVec.ofInt 64 (IntKind.u64.wrap ((IntKind.u64.wrap (s.c + s.d)) + (IntKind.u64.wrap (BitVec.ofInt 64 (a5 s.b 13) ^^^ BitVec.ofInt 64 (IntKind.u64.wrap (s.a + s.b))).toNat)))).toNat),.int .u64 (IntKind.u64.wrap ((IntKind.u64.wrap (s.c + s.d)) + (IntKind.u64.wrap (BitVec.ofInt 64 (a5 s.b 13) ^^^ BitVec.ofInt 64 (IntKind.u64.wrap (s.a + s.b))).toNat))),.int .u64 (IntKind.u64.wrap (BitVec.ofInt 64 (a5 (IntKind.u64.wrap (BitVec.ofInt 64 (a5 s.d 16) ^^^ BitVec.ofInt 64 (IntKind.u64.wrap (s.c + s.d))).toNat) 21) ^^^ BitVec.ofInt 64 (IntKind.u64.wrap ((a5 (IntKind.u64.wrap (s.a + s.b)) 32) + (IntKind.u64.wrap (BitVec.ofInt 64 (a5 s.d 16) ^^^ BitVec.ofInt 64 (IntKind.u64.wrap (s.c + s.d))).toNat)))).toNat)]⟩,⟨170,[.int .u64 0,.int .u64 0,.int .u64 0,.int .u64 0]⟩],[],[]⟩ ?_ ?_
 refine aN [false,true] (by kernel_rfl) (fun ρ σ => ?_)
 refine kTD [0,3] [55,52,1,2] 6 [(55,.p 0 2),(52,.p 0 1)] <| kA [1,4] ⟨?_,?_⟩
 refine dz 1 (.v (.int .u64 (IntKind.u64.wrap (BitVec.ofInt 64 (a5 s.b 13) ^^^ BitVec.ofInt 64 (IntKind.u64.wrap (s.a + s.b))).toNat))) rfl <| kA [2,4] ⟨?_,?_⟩
 refine cw 2 150 [.int .u64 (IntKind.u64.wrap (BitVec.ofInt 64 (a5 s.b 13) ^^^ BitVec.ofInt 64 (IntKind.u64.wrap (s.a + s.b))).toNat),iI 17] (some 54) rfl (ai fun ww hf => yRotI17 (IntKind.u64.wrap (BitVec.ofInt 64 (a5 s.b 13) ^^^ BitVec.ofInt 64 (IntKind.u64.wrap (s.a + s.b))).toNat) ww) ?_
 intro _
 refine kA [4] <| dz 4 (.v (.int .u64 (IntKind.u64.wrap ((IntKind.u64.wrap (s.c + s.d)) + (IntKind.u64.wrap (BitVec.ofInt 64 (a5 s.b 13) ^^^ BitVec.ofInt 64 (IntKind.u64.wrap (s.a + s.b))).toNat))))) rfl <| kX 5 (.int .u64 (IntKind.u64.wrap (BitVec.ofInt 64 (a5 (IntKind.u64.wrap (BitVec.ofInt 64 (a5 s.b 13) ^^^ BitVec.ofInt 64 (IntKind.u64.wrap (s.a + s.b))).toNat) 17) ^^^ BitVec.ofInt 64 (IntKind.u64.wrap ((IntKind.u64.wrap (s.c + s.d)) + (IntKind.u64.wrap (BitVec.ofInt 64 (a5 s.b 13) ^^^ BitVec.ofInt 64 (IntKind.u64.wrap (s.a + s.b))).toNat)))).toNat)) rfl (fun _ _ ww hA => az hA rfl (by kernel_rfl) (by kernel_rfl) (am ww)) ?_
 refine kTS [6] [58,57,1,2] 1 [(58,.p 0 1),(57,.v (.int .u64 (IntKind.u64.wrap (BitVec.ofInt 64 (a5 (IntKind.u64.wrap (BitVec.ofInt 64 (a5 s.b 13) ^^^ BitVec.ofInt 64 (IntKind.u64.wrap (s.a + s.b))).toNat) 17) ^^^ BitVec.ofInt 64 (IntKind.u64.wrap ((IntKind.u64.wrap (s.c + s.d)) + (IntKind.u64.wrap (BitVec.ofInt 64 (a5 s.b 13) ^^^ BitVec.ofInt 64 (IntKind.u64.wrap (s.a + s.b))).toNat)))).toNat))),(1,.p 0 0),(2,.p 1 0)] <| kA [7] <| kSS 7 0 1 [.int .u64 (IntKind.u64.wrap (BitVec.ofInt 64 (a5 (IntKind.u64.wrap (BitVec.ofInt 64 (a5 s.b 13) ^^^ BitVec.ofInt 64 (IntKind.u64.wrap (s.a + s.b))).toNat) 17) ^^^ BitVec.ofInt 64 (IntKind.u64.wrap ((IntKind.u64.wrap (s.c + s.d)) + (IntKind.u64.wrap (BitVec.ofInt 64 (a5 s.b 13) ^^^ BitVec.ofInt 64 (IntKind.u64.wrap (s.a + s.b))).toNat)))).toNat)] rfl <| kZ ?_
 exact kF 2 0 [1,2]
 refine dz 4 (.v (.int .u64 (IntKind.u64.wrap ((IntKind.u64.wrap (s.c + s.d)) + (IntKind.u64.wrap (BitVec.ofInt 64 (a5 s.b 13) ^^^ BitVec.ofInt 64 (IntKind.u64.wrap (s.a + s.b))).toNat))))) rfl <| kA [2] <| cw 2 150 [.int .u64 (IntKind.u64.wrap (BitVec.ofInt 64 (a5 s.b 13) ^^^ BitVec.ofInt 64 (IntKind.u64.wrap (s.a + s.b))).toNat),iI 17] (some 54) rfl (ai fun ww hf => yRotI17 (IntKind.u64.wrap (BitVec.ofInt 64 (a5 s.b 13) ^^^ BitVec.ofInt 64 (IntKind.u64.wrap (s.a + s.b))).toNat) ww) ?_
 intro _
 refine kX 5 (.int .u64 (IntKind.u64.wrap (BitVec.ofInt 64 (a5 (IntKind.u64.wrap (BitVec.ofInt 64 (a5 s.b 13) ^^^ BitVec.ofInt 64 (IntKind.u64.wrap (s.a + s.b))).toNat) 17) ^^^ BitVec.ofInt 64 (IntKind.u64.wrap ((IntKind.u64.wrap (s.c + s.d)) + (IntKind.u64.wrap (BitVec.ofInt 64 (a5 s.b 13) ^^^ BitVec.ofInt 64 (IntKind.u64.wrap (s.a + s.b))).toNat)))).toNat)) rfl (fun _ _ ww hA => az hA rfl (by kernel_rfl) (by kernel_rfl) (am ww)) ?_
 refine kTS [6] [58,57,1,2] 1 [(58,.p 0 1),(57,.v (.int .u64 (IntKind.u64.wrap (BitVec.ofInt 64 (a5 (IntKind.u64.wrap (BitVec.ofInt 64 (a5 s.b 13) ^^^ BitVec.ofInt 64 (IntKind.u64.wrap (s.a + s.b))).toNat) 17) ^^^ BitVec.ofInt 64 (IntKind.u64.wrap ((IntKind.u64.wrap (s.c + s.d)) + (IntKind.u64.wrap (BitVec.ofInt 64 (a5 s.b 13) ^^^ BitVec.ofInt 64 (IntKind.u64.wrap (s.a + s.b))).toNat)))).toNat))),(1,.p 0 0),(2,.p 1 0)] <| kA [7] <| kSS 7 0 1 [.int .u64 (IntKind.u64.wrap (BitVec.ofInt 64 (a5 (IntKind.u64.wrap (BitVec.ofInt 64 (a5 s.b 13) ^^^ BitVec.ofInt 64 (IntKind.u64.wrap (s.a + s.b))).toNat) 17) ^^^ BitVec.ofInt 64 (IntKind.u64.wrap ((IntKind.u64.wrap (s.c + s.d)) + (IntKind.u64.wrap (BitVec.ofInt 64 (a5 s.b 13) ^^^ BitVec.ofInt 64 (IntKind.u64.wrap (s.a + s.b))).toNat)))).toNat)] rfl <| kZ ?_
 exact kF 2 0 [1,2]
 refine dz 4 (.v (.int .u64 (IntKind.u64.wrap ((IntKind.u64.wrap (s.c + s.d)) + (IntKind.u64.wrap (BitVec.ofInt 64 (a5 s.b 13) ^^^ BitVec.ofInt 64 (IntKind.u64.wrap (s.a + s.b))).toNat))))) rfl <| kA [1] <| dz 1 (.v (.int .u64 (IntKind.u64.wrap (BitVec.ofInt 64 (a5 s.b 13) ^^^ BitVec.ofInt 64 (IntKind.u64.wrap (s.a + s.b))).toNat))) rfl <| kA [2] ?_
 refine cw 2 150 [.int .u64 (IntKind.u64.wrap (BitVec.ofInt 64 (a5 s.b 13) ^^^ BitVec.ofInt 64 (IntKind.u64.wrap (s.a + s.b))).toNat),iI 17] (some 54) rfl (ai fun ww hf => yRotI17 (IntKind.u64.wrap (BitVec.ofInt 64 (a5 s.b 13) ^^^ BitVec.ofInt 64 (IntKind.u64.wrap (s.a + s.b))).toNat) ww) ?_
 intro _
 refine kX 5 (.int .u64 (IntKind.u64.wrap (BitVec.ofInt 64 (a5 (IntKind.u64.wrap (BitVec.ofInt 64 (a5 s.b 13) ^^^ BitVec.ofInt 64 (IntKind.u64.wrap (s.a + s.b))).toNat) 17) ^^^ BitVec.ofInt 64 (IntKind.u64.wrap ((IntKind.u64.wrap (s.c + s.d)) + (IntKind.u64.wrap (BitVec.ofInt 64 (a5 s.b 13) ^^^ BitVec.ofInt 64 (IntKind.u64.wrap (s.a + s.b))).toNat)))).toNat)) rfl (fun _ _ ww hA => az hA rfl (by kernel_rfl) (by kernel_rfl) (am ww)) ?_
 refine kTS [6] [58,57,1,2] 1 [(58,.p 0 1),(57,.v (.int .u64 (IntKind.u64.wrap (BitVec.ofInt 64 (a5 (IntKind.u64.wrap (BitVec.ofInt 64 (a5 s.b 13) ^^^ BitVec.ofInt 64 (IntKind.u64.wrap (s.a + s.b))).toNat) 17) ^^^ BitVec.ofInt 64 (IntKind.u64.wrap ((IntKind.u64.wrap (s.c + s.d)) + (IntKind.u64.wrap (BitVec.ofInt 64 (a5 s.b 13) ^^^ BitVec.ofInt 64 (IntKind.u64.wrap (s.a + s.b))).toNat)))).toNat))),(1,.p 0 0),(2,.p 1 0)] <| kA [7] <| kSS 7 0 1 [.int .u64 (IntKind.u64.wrap (BitVec.ofInt 64 (a5 (IntKind.u64.wrap (BitVec.ofInt 64 (a5 s.b 13) ^^^ BitVec.ofInt 64 (IntKind.u64.wrap (s.a + s.b))).toNat) 17) ^^^ BitVec.ofInt 64 (IntKind.u64.wrap ((IntKind.u64.wrap (s.c + s.d)) + (IntKind.u64.wrap (BitVec.ofInt 64 (a5 s.b 13) ^^^ BitVec.ofInt 64 (IntKind.u64.wrap (s.a + s.b))).toNat)))).toNat)] rfl <| kZ ?_
 exact kF 2 0 [1,2]
 refine kQ <| kCS 2 [1,2,60] [(1,.p 0 0),(2,.p 1 0),(60,.v (.int .u64 (IntKind.u64.wrap ((IntKind.u64.wrap (s.c + s.d)) + (IntKind.u64.wrap (BitVec.ofInt 64 (a5 s.b 13) ^^^ BitVec.ofInt 64 (IntKind.u64.wrap (s.a + s.b))).toNat)))))] 150 [.int .u64 (IntKind.u64.wrap ((IntKind.u64.wrap (s.c + s.d)) + (IntKind.u64.wrap (BitVec.ofInt 64 (a5 s.b 13) ^^^ BitVec.ofInt 64 (IntKind.u64.wrap (s.a + s.b))).toNat))),iI 32] (some 61) rfl (ai fun ww hf => yRotI32 (IntKind.u64.wrap ((IntKind.u64.wrap (s.c + s.d)) + (IntKind.u64.wrap (BitVec.ofInt 64 (a5 s.b 13) ^^^ BitVec.ofInt 64 (IntKind.u64.wrap (s.a + s.b))).toNat))) ww) ?_
 intro _
 refine kEU [1,2] [] 0 ⟨170,[.int .u64 (IntKind.u64.wrap ((a5 (IntKind.u64.wrap (s.a + s.b)) 32) + (IntKind.u64.wrap (BitVec.ofInt 64 (a5 s.d 16) ^^^ BitVec.ofInt 64 (IntKind.u64.wrap (s.c + s.d))).toNat))),.int .u64 (IntKind.u64.wrap (BitVec.ofInt 64 (a5 (IntKind.u64.wrap (BitVec.ofInt 64 (a5 s.b 13) ^^^ BitVec.ofInt 64 (IntKind.u64.wrap (s.a + s.b))).toNat) 17) ^^^ BitVec.ofInt 64 (IntKind.u64.wrap ((IntKind.u64.wrap (s.c + s.d)) + (IntKind.u64.wrap (BitVec.ofInt 64 (a5 s.b 13) ^^^ BitVec.ofInt 64 (IntKind.u64.wrap (s.a + s.b))).toNat)))).toNat),.int .u64 (a5 (IntKind.u64.wrap ((IntKind.u64.wrap (s.c + s.d)) + (IntKind.u64.wrap (BitVec.ofInt 64 (a5 s.b 13) ^^^ BitVec.ofInt 64 (IntKind.u64.wrap (s.a + s.b))).toNat))) 32),.int .u64 (IntKind.u64.wrap (BitVec.ofInt 64 (a5 (IntKind.u64.wrap (BitVec.ofInt 64 (a5 s.d 16) ^^^ BitVec.ofInt 64 (IntKind.u64.wrap (s.c + s.d))).toNat) 21) ^^^ BitVec.ofInt 64 (IntKind.u64.wrap ((a5 (IntKind.u64.wrap (s.a + s.b)) 32) + (IntKind.u64.wrap (BitVec.ofInt 64 (a5 s.d 16) ^^^ BitVec.ofInt 64 (IntKind.u64.wrap (s.c + s.d))).toNat)))).toNat)]⟩ <| kQ <| kEU [2] [(2,.p 1 0)] 1 ⟨170,[.int .u64 (IntKind.u64.wrap ((a5 (IntKind.u64.wrap (s.a + s.b)) 32) + (IntKind.u64.wrap (BitVec.ofInt 64 (a5 s.d 16) ^^^ BitVec.ofInt 64 (IntKind.u64.wrap (s.c + s.d))).toNat))),.int .u64 (IntKind.u64.wrap (BitVec.ofInt 64 (a5 (IntKind.u64.wrap (BitVec.ofInt 64 (a5 s.b 13) ^^^ BitVec.ofInt 64 (IntKind.u64.wrap (s.a + s.b))).toNat) 17) ^^^ BitVec.ofInt 64 (IntKind.u64.wrap ((IntKind.u64.wrap (s.c + s.d)) + (IntKind.u64.wrap (BitVec.ofInt 64 (a5 s.b 13) ^^^ BitVec.ofInt 64 (IntKind.u64.wrap (s.a + s.b))).toNat)))).toNat),.int .u64 (a5 (IntKind.u64.wrap ((IntKind.u64.wrap (s.c + s.d)) + (IntKind.u64.wrap (BitVec.ofInt 64 (a5 s.b 13) ^^^ BitVec.ofInt 64 (IntKind.u64.wrap (s.a + s.b))).toNat))) 32),.int .u64 (IntKind.u64.wrap (BitVec.ofInt 64 (a5 (IntKind.u64.wrap (BitVec.ofInt 64 (a5 s.d 16) ^^^ BitVec.ofInt 64 (IntKind.u64.wrap (s.c + s.d))).toNat) 21) ^^^ BitVec.ofInt 64 (IntKind.u64.wrap ((a5 (IntKind.u64.wrap (s.a + s.b)) 32) + (IntKind.u64.wrap (BitVec.ofInt 64 (a5 s.d 16) ^^^ BitVec.ofInt 64 (IntKind.u64.wrap (s.c + s.d))).toNat)))).toNat)]⟩ <| kR ?_
 exact ⟨[.agg #[.int .u64 (IntKind.u64.wrap ((a5 (IntKind.u64.wrap (s.a + s.b)) 32) + (IntKind.u64.wrap (BitVec.ofInt 64 (a5 s.d 16) ^^^ BitVec.ofInt 64 (IntKind.u64.wrap (s.c + s.d))).toNat))),.int .u64 (IntKind.u64.wrap (BitVec.ofInt 64 (a5 (IntKind.u64.wrap (BitVec.ofInt 64 (a5 s.b 13) ^^^ BitVec.ofInt 64 (IntKind.u64.wrap (s.a + s.b))).toNat) 17) ^^^ BitVec.ofInt 64 (IntKind.u64.wrap ((IntKind.u64.wrap (s.c + s.d)) + (IntKind.u64.wrap (BitVec.ofInt 64 (a5 s.b 13) ^^^ BitVec.ofInt 64 (IntKind.u64.wrap (s.a + s.b))).toNat)))).toNat),.int .u64 (a5 (IntKind.u64.wrap ((IntKind.u64.wrap (s.c + s.d)) + (IntKind.u64.wrap (BitVec.ofInt 64 (a5 s.b 13) ^^^ BitVec.ofInt 64 (IntKind.u64.wrap (s.a + s.b))).toNat))) 32),.int .u64 (IntKind.u64.wrap (BitVec.ofInt 64 (a5 (IntKind.u64.wrap (BitVec.ofInt 64 (a5 s.d 16) ^^^ BitVec.ofInt 64 (IntKind.u64.wrap (s.c + s.d))).toNat) 21) ^^^ BitVec.ofInt 64 (IntKind.u64.wrap ((a5 (IntKind.u64.wrap (s.a + s.b)) 32) + (IntKind.u64.wrap (BitVec.ofInt 64 (a5 s.d 16) ^^^ BitVec.ofInt 64 (IntKind.u64.wrap (s.c + s.d))).toNat)))).toNat)]],by kernel_rfl,fun w' hb hf => ⟨by first | rfl | (rw [hend]; rfl),hb⟩⟩
theorem yiSipWord_c (s : Sip) (m : Int) (w : World)  : Calls Try.prog 135 #[.agg (aX s).toArray, .int .u64 m] w fun e w' => e = .returned (.agg (aX (aM s m)).toArray) ∧ Below w.heap.size w w' := by
 refine aq (args := [.agg (aX s).toArray,.int .u64 m]) (fn := Try.f135) [] Try.func135 rfl Try.ntmps135 rfl (by simp) ?_
 refine kQ <| bH [1,2,4] ⟨[(1,.v (.int .u64 m)),(2,.p 0 0),(4,.p 1 0)],[⟨170,aX s⟩,⟨170,[.int .u64 0,.int .u64 0,.int .u64 0,.int .u64 0]⟩],[],[]⟩ <| kQ <| cU 3 [1,2,4,6,7] [(6,.v (.int .u64 s.d)),(7,.v (.int .u64 m))] (.int .u64 (IntKind.u64.wrap (BitVec.ofInt 64 s.d ^^^ BitVec.ofInt 64 m).toNat)) rfl (fun _ _ _ ww hr => az hr.1 rfl (by kernel_rfl) (by kernel_rfl) (am ww)) ?_
 refine kEU [1,2,4] [] 0 ⟨170,aX { s with d := IntKind.u64.wrap (BitVec.ofInt 64 s.d ^^^ BitVec.ofInt 64 m).toNat }⟩ <| kQ <| ci 1 [1,2,4,10] [(10,.v (.agg (aX { s with d := IntKind.u64.wrap (BitVec.ofInt 64 s.d ^^^ BitVec.ofInt 64 m).toNat }).toArray))] 145 [.agg (aX { s with d := IntKind.u64.wrap (BitVec.ofInt 64 s.d ^^^ BitVec.ofInt 64 m).toNat }).toArray] (some 11) rfl (ai fun ww hf => dt ({ s with d := IntKind.u64.wrap (BitVec.ofInt 64 s.d ^^^ BitVec.ofInt 64 m).toNat }) ww) ?_
 intro _
 refine ci 0 [1,2,4,11] [] 145 [.agg (aX (a7 ({ s with d := IntKind.u64.wrap (BitVec.ofInt 64 s.d ^^^ BitVec.ofInt 64 m).toNat }))).toArray] (some 12) rfl (ai fun ww hf => dt (a7 ({ s with d := IntKind.u64.wrap (BitVec.ofInt 64 s.d ^^^ BitVec.ofInt 64 m).toNat })) ww) ?_
 intro _
 refine kEU [1,2,4] [] 0 ⟨170,aX (a7 (a7 ({ s with d := IntKind.u64.wrap (BitVec.ofInt 64 s.d ^^^ BitVec.ofInt 64 m).toNat })))⟩ <| kQ <| cU 3 [2,4,14,15] [(14,.v (.int .u64 ((a7 (a7 ({ s with d := IntKind.u64.wrap (BitVec.ofInt 64 s.d ^^^ BitVec.ofInt 64 m).toNat }))).a))),(15,.v (.int .u64 m))] (.int .u64 (IntKind.u64.wrap (BitVec.ofInt 64 ((a7 (a7 ({ s with d := IntKind.u64.wrap (BitVec.ofInt 64 s.d ^^^ BitVec.ofInt 64 m).toNat }))).a) ^^^ BitVec.ofInt 64 m).toNat)) rfl (fun _ _ _ ww hr => az hr.1 rfl (by kernel_rfl) (by kernel_rfl) (am ww)) ?_
 refine kEU [2,4] [] 0 ⟨170,aX { (a7 (a7 ({ s with d := IntKind.u64.wrap (BitVec.ofInt 64 s.d ^^^ BitVec.ofInt 64 m).toNat }))) with a := IntKind.u64.wrap (BitVec.ofInt 64 ((a7 (a7 ({ s with d := IntKind.u64.wrap (BitVec.ofInt 64 s.d ^^^ BitVec.ofInt 64 m).toNat }))).a) ^^^ BitVec.ofInt 64 m).toNat }⟩ <| kQ <| kEU [4] [(4,.p 1 0)] 1 ⟨170,aX { (a7 (a7 ({ s with d := IntKind.u64.wrap (BitVec.ofInt 64 s.d ^^^ BitVec.ofInt 64 m).toNat }))) with a := IntKind.u64.wrap (BitVec.ofInt 64 ((a7 (a7 ({ s with d := IntKind.u64.wrap (BitVec.ofInt 64 s.d ^^^ BitVec.ofInt 64 m).toNat }))).a) ^^^ BitVec.ofInt 64 m).toNat }⟩ <| kR ?_
 exact ⟨[.agg (aX { (a7 (a7 ({ s with d := IntKind.u64.wrap (BitVec.ofInt 64 s.d ^^^ BitVec.ofInt 64 m).toNat }))) with a := IntKind.u64.wrap (BitVec.ofInt 64 ((a7 (a7 ({ s with d := IntKind.u64.wrap (BitVec.ofInt 64 s.d ^^^ BitVec.ofInt 64 m).toNat }))).a) ^^^ BitVec.ofInt 64 m).toNat }).toArray],by kernel_rfl,fun w' hb hf => ⟨by first | rfl | (rw [hend]; rfl),hb⟩⟩
theorem ysSipEnd_c (s : Sip) (w : World)  : Calls Try.prog 133 #[.agg (aX s).toArray] w fun e w' => e = .returned (.int .u64 (cD s)) ∧ Below w.heap.size w w' := by
 refine aq (args := [.agg (aX s).toArray]) (fn := Try.f133) [] Try.func133 rfl Try.ntmps133 rfl (by simp) ?_
 refine kQ <| bH [1] ⟨[(1,.p 0 0)],[⟨170,aX s⟩],[],[]⟩ <| kQ <| cU 2 [1,4] [(4,.v (.int .u64 s.c))] (.int .u64 (IntKind.u64.wrap (BitVec.ofInt 64 s.c ^^^ BitVec.ofInt 64 255).toNat)) rfl (fun _ _ _ ww hr => az hr.1 rfl (by kernel_rfl) (by kernel_rfl) (am ww)) ?_
 refine kEU [1] [(1,.p 0 0)] 0 ⟨170,aX { s with c := IntKind.u64.wrap (BitVec.ofInt 64 s.c ^^^ BitVec.ofInt 64 255).toNat }⟩ <| kQ <| ci 1 [1,7] [(7,.v (.agg (aX { s with c := IntKind.u64.wrap (BitVec.ofInt 64 s.c ^^^ BitVec.ofInt 64 255).toNat }).toArray))] 144 [.agg (aX { s with c := IntKind.u64.wrap (BitVec.ofInt 64 s.c ^^^ BitVec.ofInt 64 255).toNat }).toArray] (some 8) rfl (ai fun ww hf => cv ({ s with c := IntKind.u64.wrap (BitVec.ofInt 64 s.c ^^^ BitVec.ofInt 64 255).toNat }) ww) ?_
 intro _
 refine ci 0 [1,8] [] 144 [.agg (aX (a7 ({ s with c := IntKind.u64.wrap (BitVec.ofInt 64 s.c ^^^ BitVec.ofInt 64 255).toNat }))).toArray] (some 9) rfl (ai fun ww hf => cv (a7 ({ s with c := IntKind.u64.wrap (BitVec.ofInt 64 s.c ^^^ BitVec.ofInt 64 255).toNat })) ww) ?_
 intro _
 refine ci 0 [1,9] [] 144 [.agg (aX (a7 (a7 ({ s with c := IntKind.u64.wrap (BitVec.ofInt 64 s.c ^^^ BitVec.ofInt 64 255).toNat })))).toArray] (some 10) rfl (ai fun ww hf => cv (a7 (a7 ({ s with c := IntKind.u64.wrap (BitVec.ofInt 64 s.c ^^^ BitVec.ofInt 64 255).toNat }))) ww) ?_
 intro _
 refine ci 0 [1,10] [] 144 [.agg (aX (a7 (a7 (a7 ({ s with c := IntKind.u64.wrap (BitVec.ofInt 64 s.c ^^^ BitVec.ofInt 64 255).toNat }))))).toArray] (some 11) rfl (ai fun ww hf => cv (a7 (a7 (a7 ({ s with c := IntKind.u64.wrap (BitVec.ofInt 64 s.c ^^^ BitVec.ofInt 64 255).toNat })))) ww) ?_
 intro _
 refine kEU [1] [(1,.p 0 0)] 0 ⟨170,aX (a7 (a7 (a7 (a7 ({ s with c := IntKind.u64.wrap (BitVec.ofInt 64 s.c ^^^ BitVec.ofInt 64 255).toNat })))))⟩ <| kQ <| cU 4 [1,13,15] [(13,.v (.int .u64 ((a7 (a7 (a7 (a7 ({ s with c := IntKind.u64.wrap (BitVec.ofInt 64 s.c ^^^ BitVec.ofInt 64 255).toNat }))))).a))),(15,.v (.int .u64 ((a7 (a7 (a7 (a7 ({ s with c := IntKind.u64.wrap (BitVec.ofInt 64 s.c ^^^ BitVec.ofInt 64 255).toNat }))))).b)))] (.int .u64 (IntKind.u64.wrap (BitVec.ofInt 64 ((a7 (a7 (a7 (a7 ({ s with c := IntKind.u64.wrap (BitVec.ofInt 64 s.c ^^^ BitVec.ofInt 64 255).toNat }))))).a) ^^^ BitVec.ofInt 64 ((a7 (a7 (a7 (a7 ({ s with c := IntKind.u64.wrap (BitVec.ofInt 64 s.c ^^^ BitVec.ofInt 64 255).toNat }))))).b)).toNat)) rfl (fun _ _ _ ww hr => az hr.1 rfl (by kernel_rfl) (by kernel_rfl) (am ww)) ?_
 refine cU 2 [1,16,18] [(18,.v (.int .u64 ((a7 (a7 (a7 (a7 ({ s with c := IntKind.u64.wrap (BitVec.ofInt 64 s.c ^^^ BitVec.ofInt 64 255).toNat }))))).c)))] (.int .u64 (IntKind.u64.wrap (BitVec.ofInt 64 (IntKind.u64.wrap (BitVec.ofInt 64 ((a7 (a7 (a7 (a7 ({ s with c := IntKind.u64.wrap (BitVec.ofInt 64 s.c ^^^ BitVec.ofInt 64 255).toNat }))))).a) ^^^ BitVec.ofInt 64 ((a7 (a7 (a7 (a7 ({ s with c := IntKind.u64.wrap (BitVec.ofInt 64 s.c ^^^ BitVec.ofInt 64 255).toNat }))))).b)).toNat) ^^^ BitVec.ofInt 64 ((a7 (a7 (a7 (a7 ({ s with c := IntKind.u64.wrap (BitVec.ofInt 64 s.c ^^^ BitVec.ofInt 64 255).toNat }))))).c)).toNat)) rfl (fun _ _ _ ww hr => az hr.1 rfl (by kernel_rfl) (by kernel_rfl) (am ww)) ?_
 refine cU 2 [19,21] [(21,.v (.int .u64 ((a7 (a7 (a7 (a7 ({ s with c := IntKind.u64.wrap (BitVec.ofInt 64 s.c ^^^ BitVec.ofInt 64 255).toNat }))))).d)))] (.int .u64 (IntKind.u64.wrap (BitVec.ofInt 64 (IntKind.u64.wrap (BitVec.ofInt 64 (IntKind.u64.wrap (BitVec.ofInt 64 ((a7 (a7 (a7 (a7 ({ s with c := IntKind.u64.wrap (BitVec.ofInt 64 s.c ^^^ BitVec.ofInt 64 255).toNat }))))).a) ^^^ BitVec.ofInt 64 ((a7 (a7 (a7 (a7 ({ s with c := IntKind.u64.wrap (BitVec.ofInt 64 s.c ^^^ BitVec.ofInt 64 255).toNat }))))).b)).toNat) ^^^ BitVec.ofInt 64 ((a7 (a7 (a7 (a7 ({ s with c := IntKind.u64.wrap (BitVec.ofInt 64 s.c ^^^ BitVec.ofInt 64 255).toNat }))))).c)).toNat) ^^^ BitVec.ofInt 64 ((a7 (a7 (a7 (a7 ({ s with c := IntKind.u64.wrap (BitVec.ofInt 64 s.c ^^^ BitVec.ofInt 64 255).toNat }))))).d)).toNat)) rfl (fun _ _ _ ww hr => az hr.1 rfl (by kernel_rfl) (by kernel_rfl) (am ww)) ?_
 refine bZ [2] [(2,.v (.int .u64 (IntKind.u64.wrap (BitVec.ofInt 64 (IntKind.u64.wrap (BitVec.ofInt 64 (IntKind.u64.wrap (BitVec.ofInt 64 ((a7 (a7 (a7 (a7 ({ s with c := IntKind.u64.wrap (BitVec.ofInt 64 s.c ^^^ BitVec.ofInt 64 255).toNat }))))).a) ^^^ BitVec.ofInt 64 ((a7 (a7 (a7 (a7 ({ s with c := IntKind.u64.wrap (BitVec.ofInt 64 s.c ^^^ BitVec.ofInt 64 255).toNat }))))).b)).toNat) ^^^ BitVec.ofInt 64 ((a7 (a7 (a7 (a7 ({ s with c := IntKind.u64.wrap (BitVec.ofInt 64 s.c ^^^ BitVec.ofInt 64 255).toNat }))))).c)).toNat) ^^^ BitVec.ofInt 64 ((a7 (a7 (a7 (a7 ({ s with c := IntKind.u64.wrap (BitVec.ofInt 64 s.c ^^^ BitVec.ofInt 64 255).toNat }))))).d)).toNat)))] <| kR ?_
 exact ⟨[.int .u64 (IntKind.u64.wrap (BitVec.ofInt 64 (IntKind.u64.wrap (BitVec.ofInt 64 (IntKind.u64.wrap (BitVec.ofInt 64 ((a7 (a7 (a7 (a7 ({ s with c := IntKind.u64.wrap (BitVec.ofInt 64 s.c ^^^ BitVec.ofInt 64 255).toNat }))))).a) ^^^ BitVec.ofInt 64 ((a7 (a7 (a7 (a7 ({ s with c := IntKind.u64.wrap (BitVec.ofInt 64 s.c ^^^ BitVec.ofInt 64 255).toNat }))))).b)).toNat) ^^^ BitVec.ofInt 64 ((a7 (a7 (a7 (a7 ({ s with c := IntKind.u64.wrap (BitVec.ofInt 64 s.c ^^^ BitVec.ofInt 64 255).toNat }))))).c)).toNat) ^^^ BitVec.ofInt 64 ((a7 (a7 (a7 (a7 ({ s with c := IntKind.u64.wrap (BitVec.ofInt 64 s.c ^^^ BitVec.ofInt 64 255).toNat }))))).d)).toNat)],by kernel_rfl,fun w' hb hf => ⟨by first | rfl | (rw [hend]; rfl),hb⟩⟩
theorem yiSipEnd_c (s : Sip) (w : World)  : Calls Try.prog 137 #[.agg (aX s).toArray] w fun e w' => e = .returned (.int .u64 (cD s)) ∧ Below w.heap.size w w' := by
 refine aq (args := [.agg (aX s).toArray]) (fn := Try.f137) [] Try.func137 rfl Try.ntmps137 rfl (by simp) ?_
 refine kQ <| bH [1] ⟨[(1,.p 0 0)],[⟨170,aX s⟩],[],[]⟩ <| kQ <| cU 2 [1,4] [(4,.v (.int .u64 s.c))] (.int .u64 (IntKind.u64.wrap (BitVec.ofInt 64 s.c ^^^ BitVec.ofInt 64 255).toNat)) rfl (fun _ _ _ ww hr => az hr.1 rfl (by kernel_rfl) (by kernel_rfl) (am ww)) ?_
 refine kEU [1] [(1,.p 0 0)] 0 ⟨170,aX { s with c := IntKind.u64.wrap (BitVec.ofInt 64 s.c ^^^ BitVec.ofInt 64 255).toNat }⟩ <| kS <| kQ <| aH [1,7] [(7,aI 0)] ?_
 refine aZ <| bk (α := {x : Nat × Sip // (fun (i : Nat) (z : Sip) => i ≤ 4 ∧ z = sipIt i ⟨s.a,s.b,cI s.c 255,s.d⟩) x.1 x.2}) (fun x => (fun (i : Nat) (z : Sip) => (⟨[(1,.p 0 0),(7,aI (i : Int))],[⟨170,aX z⟩],[],[]⟩ : St)) x.1.1 x.1.2) (fun x => (fun (i : Nat) (z : Sip) => 4 - i) x.1.1 x.1.2) ⟨(0,{ s with c := IntKind.u64.wrap (BitVec.ofInt 64 s.c ^^^ BitVec.ofInt 64 255).toNat }),⟨Nat.zero_le _,rfl⟩⟩ (kF 1 0 [1,7]) ?_
 rintro ⟨⟨i,z⟩,hi,HZ⟩
 try dsimp only
 try dsimp only at hi HZ
 refine kQ <| aH [1,7,8] [(8,aB (decide ((i : Int) < 4)))] <| kS <| kC (decide ((i : Int) < 4)) (fun h1 => ?_) (fun h1 => ?_)
 have h1p := of_decide_eq_true h1
 have hilt := of_decide_eq_true h1
 refine kK <| kS <| aZ <| kG <| ci 1 [1,7,9] [(9,.v (.agg (aX z).toArray))] 145 [.agg (aX z).toArray] (some 10) rfl (ai fun ww hf => dt z ww) ?_
 intro _
 refine kEU [1,7] [] 0 ⟨170,aX (a7 z)⟩ <| kG <| kRD 2 [1,7] [(7,aI (K6.wrap ((i : Int) + 1)))] <| bX [1,7] [(7,aI (K6.wrap ((i : Int) + 1)))] [(7,aI ((i : Int) + 1))] (by rw [show (K6.wrap ((i : Int) + 1)) = ((i : Int) + 1) from aY (by omega) (by omega)]) (by kernel_rfl) ?_
 refine aH [1,7] [] ?_
 exact ⟨⟨(i + 1,(a7 z)),⟨(by omega),(by rw [HZ]; rfl)⟩⟩,kF 1 0 [1,7],by show (fun (i : Nat) (z : Sip) => 4 - i) (i + 1) (a7 z) < 4 - i; (dsimp only; omega)⟩
 have h1p := of_decide_eq_false h1
 have hige := of_decide_eq_false h1
 have hend : z = sipIt 4 ⟨s.a,s.b,cI s.c 255,s.d⟩ := by rw [HZ,show i = 4 from by omega]
 refine bF <| kQ <| cU 4 [1,13,15] [(13,.v (.int .u64 z.a)),(15,.v (.int .u64 z.b))] (.int .u64 (IntKind.u64.wrap (BitVec.ofInt 64 z.a ^^^ BitVec.ofInt 64 z.b).toNat)) rfl (fun _ _ _ ww hr => az hr.1 rfl (by kernel_rfl) (by kernel_rfl) (am ww)) ?_
 refine cU 2 [1,16,18] [(18,.v (.int .u64 z.c))] (.int .u64 (IntKind.u64.wrap (BitVec.ofInt 64 (IntKind.u64.wrap (BitVec.ofInt 64 z.a ^^^ BitVec.ofInt 64 z.b).toNat) ^^^ BitVec.ofInt 64 z.c).toNat)) rfl (fun _ _ _ ww hr => az hr.1 rfl (by kernel_rfl) (by kernel_rfl) (am ww)) ?_
 refine cU 2 [19,21] [(21,.v (.int .u64 z.d))] (.int .u64 (IntKind.u64.wrap (BitVec.ofInt 64 (IntKind.u64.wrap (BitVec.ofInt 64 (IntKind.u64.wrap (BitVec.ofInt 64 z.a ^^^ BitVec.ofInt 64 z.b).toNat) ^^^ BitVec.ofInt 64 z.c).toNat) ^^^ BitVec.ofInt 64 z.d).toNat)) rfl (fun _ _ _ ww hr => az hr.1 rfl (by kernel_rfl) (by kernel_rfl) (am ww)) ?_
 refine bZ [2] [(2,.v (.int .u64 (IntKind.u64.wrap (BitVec.ofInt 64 (IntKind.u64.wrap (BitVec.ofInt 64 (IntKind.u64.wrap (BitVec.ofInt 64 z.a ^^^ BitVec.ofInt 64 z.b).toNat) ^^^ BitVec.ofInt 64 z.c).toNat) ^^^ BitVec.ofInt 64 z.d).toNat)))] <| kR ?_
 exact ⟨[.int .u64 (IntKind.u64.wrap (BitVec.ofInt 64 (IntKind.u64.wrap (BitVec.ofInt 64 (IntKind.u64.wrap (BitVec.ofInt 64 z.a ^^^ BitVec.ofInt 64 z.b).toNat) ^^^ BitVec.ofInt 64 z.c).toNat) ^^^ BitVec.ofInt 64 z.d).toNat)],by kernel_rfl,fun w' hb hf => ⟨by first | rfl | (rw [hend]; rfl),hb⟩⟩
def dx (f : Nat → Int) : Nat → Nat → Int
 | 0,_ => 0
 | k + 1,i => or64 (IntKind.u64.wrap (dx f k (i + 1) * 2 ^ (8 : Int).toNat)) (IntKind.u64.wrap (f i))
theorem low_step {f : Nat → Int} {N k : Nat} {i m y : Int} (h : m = dx f (N - (i + 1).toNat) (i + 1).toNat) (hi : i = (k : Int)) (hk : k < N) (hy : f k = y) : or64 (IntKind.u64.wrap (m * 2 ^ (8 : Int).toNat)) (IntKind.u64.wrap y) = dx f (N - ((k : Int) - 1 + 1).toNat) ((k : Int) - 1 + 1).toNat := by
 have e1 : (i + 1).toNat = k + 1 := by omega
 have e2 : ((k : Int) - 1 + 1).toNat = k := by omega
 have e3 : N - k = (N - (k + 1)) + 1 := by omega
 rw [e1] at h
 rw [e2,e3,dx,hy,h]
theorem low_end {f : Nat → Int} {N : Nat} {i m : Int} (h : m = dx f (N - (i + 1).toNat) (i + 1).toNat) (h0 : -1 ≤ i) (hi : ¬ i ≥ 0) : m = dx f N 0 := by
 have e : (i + 1).toNat = 0 := by omega
 rw [h,e]; rfl
def cB (l : List Int) : Int := dx (fun jj => l.getD jj 0) 8 0
def dy (s : ByteArray) : Int := dx (fun jj => aW s jj) s.size 0
theorem lowG_shift {f g : Nat → Int} {a : Nat} : ∀ (n i : Nat), (∀ q, i ≤ q → q < i + n → f q = g (a + q)) → dx f n i = dx g n (a + i)
 | 0,_,_ => rfl
 | n + 1,i,h => by
   rw [dx,dx,lowG_shift n (i + 1) (fun q h1 h2 => h q (by omega) (by omega)),h i (Nat.le_refl _) (by omega)]; rfl
theorem yLittle_c (l : List Int) (lV : Value) (w : World) (hl_lV : Sl w lV 1 (l.map bR)) (h8 : 8 ≤ l.length) : Calls Try.prog 136 #[lV] w fun e w' => e = .returned (.int .u64 (cB l)) ∧ Below w.heap.size w w' := by
 obtain ⟨Al,Cl,hvl⟩ := hl_lV.form
 rw [List.length_map] at hvl; subst hvl
 have hnl := hl_lV.len; rw [List.length_map] at hnl
 have hql := Sl.capLe hl_lV
 refine aq (args := [.slice Al l.length Cl]) (fn := Try.f136) [ag (.slice Al l.length Cl) 1 (l.map bR)] Try.func136 rfl Try.ntmps136 rfl (by simp only [List.mem_cons,List.not_mem_nil,or_false,forall_eq_or_imp,forall_eq]; exact ⟨rfl,hl_lV⟩) ?_
 refine kQ <| bH [0] ⟨[(0,.v (.slice Al l.length Cl))],[],[],[ag (.slice Al l.length Cl) 1 (l.map bR)]⟩ <| kQ <| aH [0,3] [(3,.v (.int .u64 0))] ?_
 refine kS <| kQ <| aH [0,3,4] [(4,aI 7)] <| aZ <| bk (α := {x : Int × Int // (fun (i : Int) (m : Int) => -1 ≤ i ∧ i < (8 : Int) ∧ m = dx (fun j => l.getD j 0) (8 - (i + 1).toNat) (i + 1).toNat) x.1 x.2}) (fun x => (fun (i : Int) (m : Int) => (⟨[(0,.v (.slice Al l.length Cl)),(3,.v (.int .u64 m)),(4,aI i)],[],[],[ag (.slice Al l.length Cl) 1 (l.map bR)]⟩ : St)) x.1.1 x.1.2) (fun x => (fun (i : Int) (m : Int) => (i + 1).toNat) x.1.1 x.1.2) ⟨(7,0),⟨(by omega),(by omega),(by have e : ((7 : Int) + 1).toNat = 8 := (by omega); rw [e,Nat.sub_self]; rfl)⟩⟩ (kF 0 0 [0,3,4]) ?_
 rintro ⟨⟨i,m⟩,hi0,hiN,HM⟩
 try dsimp only
 try dsimp only at hi0 hiN HM
 refine kS <| kQ <| aH [0,3,4,6] [(6,aB (decide (i ≥ 0)))] <| kC (decide (i ≥ 0)) (fun h1 => ?_) (fun h1 => ?_)
 have h1p := of_decide_eq_true h1
 obtain ⟨k,hik⟩ : ∃ k : Nat,i = (k : Int) := ⟨i.toNat,by have := of_decide_eq_true h1; omega⟩
 have hkN : k < 8 := by omega
 refine xw_eq (st' := ⟨[(0,.v (.slice Al l.length Cl)),(3,.v (.int .u64 m)),(4,aI (k : Int)),(6,aB (decide (i ≥ 0)))],[],[],[ag (.slice Al l.length Cl) 1 (l.map bR)]⟩) (by rw [hik] <;> rfl) ?_
 obtain ⟨y,hy⟩ : ∃ y,l[k]? = some y := ⟨_,List.getElem?_eq_getElem (by omega)⟩
 have hky : (fun j => l.getD j 0) k = y := by show l.getD k 0 = y; rw [List.getD_eq_getElem?_getD,hy]; rfl
 refine kK <| kS <| aZ <| kG <| kOF 1 [0,3,4,9] ⟨[(0,.v (.slice Al l.length Cl)),(3,.v (.int .u64 m)),(4,aI (k : Int)),(9,.v (.int .u64 m))],[],[],[ag (.slice Al l.length Cl) 1 (l.map bR)]⟩ (.int .u64 (IntKind.u64.wrap (m * 2 ^ (8 : Int).toNat))) rfl (fun _ _ _ ww hr => az hr.1 rfl (by kernel_rfl) (by kernel_rfl) (bG (k' := .u64) (by decide) (by decide) ww)) ?_
 refine cF (kd := .i64) (T := 168) (e := 5) (K := 1) 2 [0,3,4,10,11,12] [(11,.v (.slice Al l.length Cl)),(12,aI (k : Int))] k [.int .u8 y] (ag (.slice Al l.length Cl) 1 (l.map bR)) (by kernel_rfl) rfl (by kernel_rfl) rfl rfl (by kernel_rfl) (by kernel_rfl) (by kernel_rfl) (by kernel_rfl) (by omega) (by simp) (fun w h => h) (fun b h => h) (by simp only [List.getElem?_map,hy]; rfl) ?_
 refine aH [0,3,4] [(3,.v (.int .u64 (IntKind.u64.wrap (BitVec.ofInt 64 (IntKind.u64.wrap (m * 2 ^ (8 : Int).toNat)) ||| BitVec.ofInt 64 (IntKind.u64.wrap y)).toNat)))] <| kG <| kRD 3 [0,3,4] [(4,aI (K6.wrap ((k : Int) - 1)))] <| bX [0,3,4] [(4,aI (K6.wrap ((k : Int) - 1)))] [(4,aI ((k : Int) - 1))] (by rw [show (K6.wrap ((k : Int) - 1)) = ((k : Int) - 1) from aY (by omega) (by omega)]) (by kernel_rfl) ?_
 refine aH [0,3,4] [] ?_
 exact ⟨⟨((k : Int) - 1,IntKind.u64.wrap (BitVec.ofInt 64 (IntKind.u64.wrap (m * 2 ^ (8 : Int).toNat)) ||| BitVec.ofInt 64 (IntKind.u64.wrap y)).toNat),⟨(by omega),(by omega),low_step HM hik hkN hky⟩⟩,kF 0 0 [0,3,4],by show (fun (i : Int) (m : Int) => (i + 1).toNat) ((k : Int) - 1) (IntKind.u64.wrap (BitVec.ofInt 64 (IntKind.u64.wrap (m * 2 ^ (8 : Int).toNat)) ||| BitVec.ofInt 64 (IntKind.u64.wrap y)).toNat) < (i + 1).toNat; (dsimp only; omega)⟩
 have h1p := of_decide_eq_false h1
 have hend := low_end HM hi0 (of_decide_eq_false h1)
 refine bF <| kQ <| bZ [2] [(2,.v (.int .u64 m))] <| kR ?_
 exact ⟨[.int .u64 m],by kernel_rfl,fun w' hb hf => ⟨by rw [hend]; rfl,hb⟩⟩
theorem yl10Low_c (s : ByteArray) (w : World) (hsz : s.size ≤ 1048576) : Calls Try.prog 132 #[.string s] w fun e w' => e = .returned (.int .u64 (dy s)) ∧ Below w.heap.size w w' := by
 refine aq (args := [.string s]) (fn := Try.f132) [] Try.func132 rfl Try.ntmps132 rfl (by simp) ?_
 refine kQ <| bH [0] ⟨[(0,.v (.string s))],[],[],[]⟩ <| kQ <| aH [0,3] [(3,.v (.int .u64 0))] ?_
 refine kS <| kQ <| kRD 4 [0,3,4] [(4,aI (K6.wrap ((s.size : Int) - 1)))] <| bX [0,3,4] [(4,aI (K6.wrap ((s.size : Int) - 1)))] [(4,aI ((s.size : Int) - 1))] (by rw [show (K6.wrap ((s.size : Int) - 1)) = ((s.size : Int) - 1) from aY (by omega) (by omega)]) (by kernel_rfl) ?_
 refine aH [0,3,4] [] <| aZ <| bk (α := {x : Int × Int // (fun (i : Int) (m : Int) => -1 ≤ i ∧ i < (s.size : Int) ∧ m = dx (fun j => aW s j) (s.size - (i + 1).toNat) (i + 1).toNat) x.1 x.2}) (fun x => (fun (i : Int) (m : Int) => (⟨[(0,.v (.string s)),(3,.v (.int .u64 m)),(4,aI i)],[],[],[]⟩ : St)) x.1.1 x.1.2) (fun x => (fun (i : Int) (m : Int) => (i + 1).toNat) x.1.1 x.1.2) ⟨((s.size : Int) - 1,0),⟨(by omega),(by omega),(by have e : (((s.size : Int) - 1 : Int) + 1).toNat = s.size := (by omega); rw [e,Nat.sub_self]; rfl)⟩⟩ (kF 0 0 [0,3,4]) ?_
 rintro ⟨⟨i,m⟩,hi0,hiN,HM⟩
 try dsimp only
 try dsimp only at hi0 hiN HM
 refine kS <| kQ <| aH [0,3,4,9] [(9,aB (decide (i ≥ 0)))] <| kC (decide (i ≥ 0)) (fun h1 => ?_) (fun h1 => ?_)
 have h1p := of_decide_eq_true h1
 obtain ⟨k,hik⟩ : ∃ k : Nat,i = (k : Int) := ⟨i.toNat,by have := of_decide_eq_true h1; omega⟩
 have hkN : k < s.size := by omega
 refine xw_eq (st' := ⟨[(0,.v (.string s)),(3,.v (.int .u64 m)),(4,aI (k : Int)),(9,aB (decide (i ≥ 0)))],[],[],[]⟩) (by rw [hik] <;> rfl) ?_
 have hky : (fun j => aW s j) k = aW s k := rfl
 refine kK <| kS <| aZ <| kG <| kOF 1 [0,3,4,12] ⟨[(0,.v (.string s)),(3,.v (.int .u64 m)),(4,aI (k : Int)),(12,.v (.int .u64 m))],[],[],[]⟩ (.int .u64 (IntKind.u64.wrap (m * 2 ^ (8 : Int).toNat))) rfl (fun _ _ _ ww hr => az hr.1 rfl (by kernel_rfl) (by kernel_rfl) (bG (k' := .u64) (by decide) (by decide) ww)) ?_
 refine cU 2 [0,3,4,13,14,15] [(14,.v (.string s)),(15,aI (k : Int))] (.int .u8 (aW s k)) rfl (fun _ _ _ ww hr => act_tix (kd := .i64) (t := s) k hr.1 rfl rfl (by kernel_rfl) (by kernel_rfl) hkN ww) ?_
 refine aH [0,3,4] [(3,.v (.int .u64 (IntKind.u64.wrap (BitVec.ofInt 64 (IntKind.u64.wrap (m * 2 ^ (8 : Int).toNat)) ||| BitVec.ofInt 64 (IntKind.u64.wrap (aW s k))).toNat)))] <| kG <| kRD 3 [0,3,4] [(4,aI (K6.wrap ((k : Int) - 1)))] <| bX [0,3,4] [(4,aI (K6.wrap ((k : Int) - 1)))] [(4,aI ((k : Int) - 1))] (by rw [show (K6.wrap ((k : Int) - 1)) = ((k : Int) - 1) from aY (by omega) (by omega)]) (by kernel_rfl) ?_
 refine aH [0,3,4] [] ?_
 exact ⟨⟨((k : Int) - 1,IntKind.u64.wrap (BitVec.ofInt 64 (IntKind.u64.wrap (m * 2 ^ (8 : Int).toNat)) ||| BitVec.ofInt 64 (IntKind.u64.wrap (aW s k))).toNat),⟨(by omega),(by omega),low_step HM hik hkN hky⟩⟩,kF 0 0 [0,3,4],by show (fun (i : Int) (m : Int) => (i + 1).toNat) ((k : Int) - 1) (IntKind.u64.wrap (BitVec.ofInt 64 (IntKind.u64.wrap (m * 2 ^ (8 : Int).toNat)) ||| BitVec.ofInt 64 (IntKind.u64.wrap (aW s k))).toNat) < (i + 1).toNat; (dsimp only; omega)⟩
 have h1p := of_decide_eq_false h1
 have hend := low_end HM hi0 (of_decide_eq_false h1)
 refine bF <| kQ <| bZ [2] [(2,.v (.int .u64 m))] <| kR ?_
 exact ⟨[.int .u64 m],by kernel_rfl,fun w' hb hf => ⟨by rw [hend]; rfl,hb⟩⟩
theorem u64_full {n : Int} (h1 : 0 ≤ n) (h2 : n < 18446744073709551616) : IntKind.u64.wrap n = n := by
 simp only [IntKind.wrap,IntKind.bits,IntKind.signed]; simp; omega
theorem ofInt_nat {n : Nat} (h : n < 18446744073709551616) : (BitVec.ofInt 64 (n : Int)).toNat = n := by
 rw [BitVec.toNat_ofInt]
 have : ((n : Int) % ((2 ^ 64 : Nat) : Int)).toNat = n := by
   have e : ((2 ^ 64 : Nat) : Int) = 18446744073709551616 := by decide
   rw [e]; omega
 exact this
theorem or64_add (m y s : Nat) (hy : y < 2 ^ s) (hs : m * 2 ^ s + y < 18446744073709551616) : or64 ((m * 2 ^ s : Nat) : Int) (y : Int) = ((m * 2 ^ s + y : Nat) : Int) := by
 unfold or64
 rw [BitVec.toNat_or,ofInt_nat (by omega),ofInt_nat (by omega)]
 have e : m * 2 ^ s ||| y = m * 2 ^ s + y := by
   rw [← Nat.shiftLeft_eq]; exact (Nat.shiftLeft_add_eq_or_of_lt hy m).symm
 rw [e,u64_full (by omega) (by omega)]
theorem or64_comm (x y : Int) : or64 x y = or64 y x := by unfold or64; rw [BitVec.or_comm]
/-- The same number, counted. -/
def lowN (f : Nat → Nat) : Nat → Nat → Nat
 | 0,_ => 0
 | k + 1,i => lowN f k (i + 1) * 256 + f i
theorem lowN_lt {f : Nat → Nat} (h : ∀ i, f i < 256) : ∀ k i, lowN f k i < 256 ^ k
 | 0,_ => by simp [lowN]
 | k + 1,i => by
   have h1 := lowN_lt h k (i + 1)
   have h2 := h i
   rw [lowN,Nat.pow_succ]; omega
theorem lowG_nat {f : Nat → Int} {g : Nat → Nat} (hg : ∀ i, g i < 256) : ∀ k i, k ≤ 8 → (∀ q, i ≤ q → q < i + k → f q = (g q : Int)) → dx f k i = (lowN g k i : Int)
 | 0,_,_,_ => rfl
 | k + 1,i,hk,h => by
   rw [dx,lowG_nat hg k (i + 1) (by omega) (fun q h1 h2 => h q (by omega) (by omega)),h i (Nat.le_refl _) (by omega)]
   have h1 := lowN_lt hg k (i + 1)
   have h2 := hg i
   have h3 : 256 ^ k ≤ 256 ^ 7 := Nat.pow_le_pow_right (by decide) (by omega)
   have h4 : (256 : Nat) ^ 7 = 72057594037927936 := by decide
   have e1 : (lowN g k (i + 1) : Int) * 2 ^ (8 : Int).toNat = ((lowN g k (i + 1) * 2 ^ 8 : Nat) : Int) := by
     rw [show (2 : Int) ^ (8 : Int).toNat = 256 from rfl]; omega
   rw [e1,u64_full (by omega) (by omega),u64_full (by omega) (by omega),or64_add _ _ 8 (by omega) (by omega)]
   rw [lowN]
theorem byteAt_nat (t : ByteArray) (k : Nat) : aW t k = ((aW t k).toNat : Int) := by have := byteAt_rng t k; omega
theorem byteAt_ext {t : ByteArray} {a b q : Nat} (hq : a + q < b) (hb : b ≤ t.size) : aW (t.extract a b) q = aW t (a + q) := by
 unfold aW
 have h1 : q < (t.extract a b).data.size := by have : (t.extract a b).size = b - a := by rw [ByteArray.size_extract]; omega
                                               show q < (t.extract a b).size; omega
 have h2 : a + q < t.data.size := by show a + q < t.size; omega
 rw [Array.getD_eq_getD_getElem?,Array.getD_eq_getD_getElem?,Array.getElem?_eq_getElem h1,Array.getElem?_eq_getElem h2]
 simp only [Option.getD_some]
 congr 1
 simp only [ByteArray.data_extract,Array.getElem_extract]
theorem bytesL_get (t : ByteArray) (k : Nat) (h : k < t.size) : (ac t)[k]? = some (aW t k) := by
 unfold ac aW
 have h2 : k < t.data.size := h
 rw [List.getElem?_map,Array.getD_eq_getD_getElem?,Array.getElem?_toList,Array.getElem?_eq_getElem h2]; rfl
def sipF (f : Nat → Int) : Nat → Sip → Sip
 | 0,s => s
 | j + 1,s => aM (sipF f j s) (dx f 8 (8 * j))
def sipTail (t : ByteArray) : Int := or64 (dx (fun q => aW t q) (t.size % 8) (8 * (t.size / 8))) (IntKind.u64.wrap (IntKind.u64.wrap (Int.tmod (t.size : Int) 256) * 2 ^ (56 : Int).toNat))
def bN (k l : Int) (t : ByteArray) : Int := cD (aM (sipF (fun q => aW t q) (t.size / 8) (ca k l)) (sipTail t))
theorem low_ext {t : ByteArray} {a b : Nat} (h : a ≤ b) (hb : b ≤ t.size) : dy (t.extract a b) = dx (fun q => aW t q) (b - a) a := by
 unfold dy
 have e : (t.extract a b).size = b - a := by rw [ByteArray.size_extract]; omega
 rw [e,lowG_shift (f := fun jj => aW (t.extract a b) jj) (g := fun q => aW t q) (a := a) (b - a) 0 (fun q h1 h2 => byteAt_ext (by omega) hb),Nat.add_zero]
theorem low_drop {t : ByteArray} {a : Nat} (h : a + 8 ≤ t.size) : cB ((ac t).drop a) = dx (fun q => aW t q) 8 a := by
 unfold cB
 rw [lowG_shift (f := fun jj => ((ac t).drop a).getD jj 0) (g := fun q => aW t q) (a := a) 8 0 (fun q h1 h2 => by
   show ((ac t).drop a).getD q 0 = aW t (a + q)
   rw [List.getD_eq_getElem?_getD,List.getElem?_drop,bytesL_get t (a + q) (by omega)]; rfl),Nat.add_zero]
theorem sip_stepS {t : ByteArray} {j : Nat} {z : Sip} {s0 : Sip} (hz : z = sipF (fun q => aW t q) j s0) (h : 8 * j + 8 ≤ t.size) {a b : Nat} (ha : a = 8 * j) (hb : b = 8 * j + 8) : aM z (dy (t.extract a b)) = sipF (fun q => aW t q) (j + 1) s0 := by
 rw [low_ext (by omega) (by omega),hz,sipF,ha,show b - 8 * j = 8 from by omega]
theorem sip_stepL {t : ByteArray} {j : Nat} {z : Sip} {s0 : Sip} (hz : z = sipF (fun q => aW t q) j s0) (h : 8 * j + 8 ≤ t.size) : aM z (cB ((ac t).drop (8 * j))) = sipF (fun q => aW t q) (j + 1) s0 := by
 rw [low_drop h,hz,sipF]
theorem sip_endS {t : ByteArray} {j : Nat} {z s0 : Sip} (hz : z = sipF (fun q => aW t q) j s0) (hj : 8 * j ≤ t.size) (h : ¬ 8 * j + 8 ≤ t.size) {a : Nat} (ha : a = 8 * j) :
   cD (aM z (or64 (dy (t.extract a t.size)) (IntKind.u64.wrap (IntKind.u64.wrap (Int.tmod (t.size : Int) 256) * 2 ^ (56 : Int).toNat)))) = cD (aM (sipF (fun q => aW t q) (t.size / 8) s0) (sipTail t)) := by
 have e1 : t.size / 8 = j := by omega
 have e2 : t.size % 8 = t.size - 8 * j := by omega
 unfold sipTail
 rw [low_ext (by omega) (Nat.le_refl _),e1,e2,hz,ha]
theorem sum_tail (g : Nat → Nat) (c r a : Nat) (hr : r ≤ 7) (f : Nat → Nat) (hA : ∀ i, i < r → f i = g (a + i)) (hZ : ∀ i, r ≤ i → i < 7 → f i = 0) (hC : f 7 = c) : lowN f 8 0 = c * 72057594037927936 + lowN g r a := by
 have : r = 0 ∨ r = 1 ∨ r = 2 ∨ r = 3 ∨ r = 4 ∨ r = 5 ∨ r = 6 ∨ r = 7 := by omega
 rcases this with rfl | rfl | rfl | rfl | rfl | rfl | rfl | rfl <;> simp only [lowN,Nat.zero_add,Nat.add_zero,Nat.add_assoc,Nat.reduceAdd]
 · rw [hZ 0 (by omega) (by omega),hZ 1 (by omega) (by omega),hZ 2 (by omega) (by omega),hZ 3 (by omega) (by omega),hZ 4 (by omega) (by omega),hZ 5 (by omega) (by omega),hZ 6 (by omega) (by omega),hC]; omega
 · rw [hA 0 (by omega),hZ 1 (by omega) (by omega),hZ 2 (by omega) (by omega),hZ 3 (by omega) (by omega),hZ 4 (by omega) (by omega),hZ 5 (by omega) (by omega),hZ 6 (by omega) (by omega),hC]; simp only [Nat.add_zero]; omega
 · rw [hA 0 (by omega),hA 1 (by omega),hZ 2 (by omega) (by omega),hZ 3 (by omega) (by omega),hZ 4 (by omega) (by omega),hZ 5 (by omega) (by omega),hZ 6 (by omega) (by omega),hC]; simp only [Nat.add_zero]; omega
 · rw [hA 0 (by omega),hA 1 (by omega),hA 2 (by omega),hZ 3 (by omega) (by omega),hZ 4 (by omega) (by omega),hZ 5 (by omega) (by omega),hZ 6 (by omega) (by omega),hC]; simp only [Nat.add_zero]; omega
 · rw [hA 0 (by omega),hA 1 (by omega),hA 2 (by omega),hA 3 (by omega),hZ 4 (by omega) (by omega),hZ 5 (by omega) (by omega),hZ 6 (by omega) (by omega),hC]; simp only [Nat.add_zero]; omega
 · rw [hA 0 (by omega),hA 1 (by omega),hA 2 (by omega),hA 3 (by omega),hA 4 (by omega),hZ 5 (by omega) (by omega),hZ 6 (by omega) (by omega),hC]; simp only [Nat.add_zero]; omega
 · rw [hA 0 (by omega),hA 1 (by omega),hA 2 (by omega),hA 3 (by omega),hA 4 (by omega),hA 5 (by omega),hZ 6 (by omega) (by omega),hC]; simp only [Nat.add_zero]; omega
 · rw [hA 0 (by omega),hA 1 (by omega),hA 2 (by omega),hA 3 (by omega),hA 4 (by omega),hA 5 (by omega),hA 6 (by omega),hC]; simp only [Nat.add_zero]; omega
theorem tail_list {t : ByteArray} {j : Nat} (hj : 8 * j ≤ t.size) (h : ¬ 8 * j + 8 ≤ t.size) : cB ((((ac t).drop (8 * j)) ++ (List.replicate 8 (0 : Int)).drop ((ac t).drop (8 * j)).length).set 7 (IntKind.u8.wrap (t.size : Int))) = sipTail t := by
 have hl : ((ac t).drop (8 * j)).length = t.size - 8 * j := by rw [List.length_drop,cy]
 have e1 : t.size / 8 = j := by omega
 have e2 : t.size % 8 = t.size - 8 * j := by omega
 generalize hr : t.size - 8 * j = r at *
 let g : Nat → Nat := fun q => (aW t q).toNat
 have hg : ∀ i,g i < 256 := fun i => by have := byteAt_rng t i; show (aW t i).toNat < 256; omega
 let f : Nat → Nat := fun i => if i < r then g (8 * j + i) else if i = 7 then t.size % 256 else 0
 have hf : ∀ i,f i < 256 := fun i => by
   show (if i < r then g (8 * j + i) else if i = 7 then t.size % 256 else 0) < 256
   split
   · exact hg _
   · split <;> omega
 unfold cB sipTail
 rw [lowG_nat (g := f) hf 8 0 (Nat.le_refl _) (fun q h1 h2 => by
   show ((((ac t).drop (8 * j)) ++ (List.replicate 8 (0 : Int)).drop ((ac t).drop (8 * j)).length).set 7 (IntKind.u8.wrap (t.size : Int))).getD q 0 = ((if q < r then g (8 * j + q) else if q = 7 then t.size % 256 else 0 : Nat) : Int)
   rw [List.getD_eq_getElem?_getD,List.getElem?_set]
   by_cases h7 : 7 = q
   · subst h7
     rw [if_pos rfl,if_pos (by simp only [List.length_append,List.length_drop,List.length_replicate,cy]; omega),if_neg (by omega),if_pos rfl]
     show ((t.size : Int) % 256) = _
     omega
   · rw [if_neg h7]
     by_cases hq : q < r
     · rw [if_pos hq,List.getElem?_append_left (by rw [hl]; exact hq),List.getElem?_drop,bytesL_get t _ (by omega)]
       exact byteAt_nat t _
     · rw [if_neg hq,if_neg (fun e => h7 e.symm),List.getElem?_append_right (by rw [hl]; omega),List.getElem?_drop,List.getElem?_replicate,if_pos (by rw [hl]; omega)]; rfl)]
 rw [e1,e2,lowG_nat (f := fun q => aW t q) (g := g) hg r (8 * j) (by omega) (fun q h1 h2 => byteAt_nat t q)]
 rw [sum_tail g (t.size % 256) r (8 * j) (by omega) f (fun i hi => by show (if i < r then _ else _) = _; rw [if_pos hi]) (fun i h1 h2 => by show (if i < r then _ else _) = _; rw [if_neg (by omega),if_neg (by omega)]) (by show (if 7 < r then _ else _) = _; rw [if_neg (by omega),if_pos rfl])]
 have h1 := lowN_lt hg r (8 * j)
 have h3 : 256 ^ r ≤ 256 ^ 7 := Nat.pow_le_pow_right (by decide) (by omega)
 have h4 : (256 : Nat) ^ 7 = 72057594037927936 := by decide
 have e3 : Int.tmod (t.size : Int) 256 = ((t.size % 256 : Nat) : Int) := by rw [Int.tmod_eq_emod_of_nonneg (by omega)]; rfl
 rw [e3,u64_full (n := ((t.size % 256 : Nat) : Int)) (by omega) (by omega)]
 have e4 : ((t.size % 256 : Nat) : Int) * 2 ^ (56 : Int).toNat = ((t.size % 256 * 2 ^ 56 : Nat) : Int) := by
   rw [show (2 : Int) ^ (56 : Int).toNat = 72057594037927936 from rfl]; omega
 rw [e4,u64_full (by omega) (by omega),or64_comm,or64_add _ _ 56 (by omega) (by omega)]
theorem sip_endL {t : ByteArray} {j : Nat} {z s0 : Sip} (hz : z = sipF (fun q => aW t q) j s0) (hj : 8 * j ≤ t.size) (h : ¬ 8 * j + 8 ≤ t.size) :
   cD (aM z (cB ((((ac t).drop (8 * j)) ++ (List.replicate 8 (0 : Int)).drop ((ac t).drop (8 * j)).length).set 7 (IntKind.u8.wrap (t.size : Int))))) = cD (aM (sipF (fun q => aW t q) (t.size / 8) s0) (sipTail t)) := by
 rw [tail_list hj h,hz,show t.size / 8 = j from by omega]
theorem byt_new {w0 : World} {b : List Box} {r : List (List Value)} {ρ : Nat → Nat} {σ : Nat → Nat × Nat} {w : World} {hs : List Fact} {B g e N cap : Nat} {l : List Int} (h : XHeap w0 b r (bytF B g e N cap l :: hs) ρ σ w) : XHeap w0 b r (newF B (.slice (some ⟨g,0,none⟩) N cap) 1 ((l.drop (8 * 0)).map bR) :: hs) ρ σ w :=
 h.weak rfl (fun hp => ⟨by rw [Nat.mul_zero,List.drop_zero]; exact bytF_sl hp,fun q hq => by
   have e : (some g : Option Nat) = some q := hq.2
   simp only [Option.some.injEq] at e; subst e; exact hp.1⟩) (fun q hq => by
   have e : (some g : Option Nat) = some q := hq.2
   simp only [Option.some.injEq] at e; exact e.symm)
theorem new_tail {w0 : World} {b : List Box} {r : List (List Value)} {ρ : Nat → Nat} {σ : Nat → Nat × Nat} {w : World} {hs : List Fact} {B n cap j : Nat} {A : Option Addr} {l : List Int} (h8 : 8 ≤ n) (h : XHeap w0 b r (newF B (.slice A n cap) 1 ((l.drop (8 * j)).map bR) :: hs) ρ σ w) :
   XHeap w0 b r (newF B (.slice (if cap = 8 then A else A.map (·.add (8 * 1))) (n - 8) (cap - 8)) 1 ((l.drop (8 * (j + 1))).map bR) :: hs) ρ σ w := by
 have hb : ∀ q,(newF B (.slice (if cap = 8 then A else A.map (·.add (8 * 1))) (n - 8) (cap - 8)) 1 ((l.drop (8 * (j + 1))).map bR)).blk q → (newF B (.slice A n cap) 1 ((l.drop (8 * j)).map bR)).blk q := fun q ⟨h1,h2⟩ => by
   refine ⟨fun e => h1 ?_,?_⟩
   · simp only [List.map_eq_nil_iff] at e ⊢
     rw [show 8 * (j + 1) = 8 * j + 8 from by omega,← List.drop_drop,e]; rfl
   · split at h2
     · cases A <;> exact h2
     · cases A with
       | none => exact h2
       | some a => exact h2
 refine h.weak rfl (fun hp => ⟨?_,fun q hq => hp.2 q (hb q hq)⟩) hb
 have hs := hp.1
 have hl : (l.drop (8 * j)).length = n := by
   obtain ⟨a,c,hv,-⟩ := hs
   simp only [Value.slice.injEq,List.length_map] at hv; exact hv.2.1.symm
 have := Sl.partM (l := l.drop (8 * j)) (f := bR) hs 8 n h8 (Nat.le_refl _)
 rw [List.take_of_length_le (by rw [List.length_drop,hl]; exact Nat.le_refl _),List.drop_drop,show 8 * j + 8 = 8 * (j + 1) from by omega] at this
 exact this
theorem ret_u64 {x y : Int} (h : x = y) : Ending.returned (.int .u64 x) = .returned (.int .u64 y) := by rw [h]
theorem ysSipHash_c (k : Int) (l : Int) (t : ByteArray) (w : World) (hsz : t.size ≤ 1048576) : Calls Try.prog 109 #[.int .u64 k, .int .u64 l, .string t] w fun e w' => e = .returned (.int .u64 (bN k l t)) ∧ Below w.heap.size w w' := by
 refine aq (args := [.int .u64 k,.int .u64 l,.string t]) (fn := Try.f109) [] Try.func109 rfl Try.ntmps109 rfl (by simp) ?_
 refine kQ <| bH [0,1,2] ⟨[(0,.v (.int .u64 k)),(1,.v (.int .u64 l)),(2,.v (.string t))],[],[],[]⟩ <| kQ <| ci 2 [2,10,11] [(10,.v (.int .u64 k)),(11,.v (.int .u64 l))] 130 [.int .u64 k,.int .u64 l] (some 12) rfl (ai fun ww hf => ysSipStart_c k l ww) ?_
 intro _
 refine kEA [2,7] [(7,.p 0 0)] [⟨170,aX (ca k l)⟩] <| kQ <| aH [2,7,8] [(8,aI (t.size : Int))] <| kQ <| aH [2,7,8,9] [(9,aI 0)] ?_
 refine kS <| aZ <| bk (α := {x : Nat × Sip // (fun (j : Nat) (z : Sip) => 8 * j ≤ t.size ∧ z = sipF (fun q => aW t q) j (ca k l)) x.1 x.2}) (fun x => (fun (j : Nat) (z : Sip) => (⟨[(2,.v (.string t)),(7,.p 0 0),(8,aI (t.size : Int)),(9,aI ((8 * j : Nat) : Int))],[⟨170,aX z⟩],[],[]⟩ : St)) x.1.1 x.1.2) (fun x => (fun (j : Nat) (z : Sip) => t.size - 8 * j) x.1.1 x.1.2) ⟨(0,(ca k l)),⟨Nat.zero_le _,rfl⟩⟩ (kF 1 0 [2,7,8,9]) ?_
 rintro ⟨⟨j,z⟩,hj,HZ⟩
 try dsimp only
 try dsimp only at hj HZ
 refine kS <| kQ <| kRD 4 [2,7,8,9,18] [(18,aB (decide ((K6.wrap (((8 * j : Nat) : Int) + 8)) ≤ (t.size : Int))))] <| bX [2,7,8,9,18] [(18,aB (decide ((K6.wrap (((8 * j : Nat) : Int) + 8)) ≤ (t.size : Int))))] [(18,aB (decide ((((8 * j : Nat) : Int) + 8) ≤ (t.size : Int))))] (by rw [show (K6.wrap (((8 * j : Nat) : Int) + 8)) = (((8 * j : Nat) : Int) + 8) from aY (by omega) (by omega)]) (by kernel_rfl) ?_
 refine aH [2,7,8,9,18] [] <| kC (decide ((((8 * j : Nat) : Int) + 8) ≤ (t.size : Int))) (fun h1 => ?_) (fun h1 => ?_)
 have h1p := of_decide_eq_true h1
 have hj8 :  8 * j + 8 ≤ t.size := by have := of_decide_eq_true h1; omega
 refine kK <| aZ <| kS <| cM ⟨[(2,.v (.string t)),(7,.p 0 0),(8,aI (t.size : Int)),(9,aI ((8 * j : Nat) : Int))],[⟨170,aX (aM z (dy (t.extract (((8 * j : Nat) : Int)).toNat (((8 * j : Nat) : Int) + 8).toNat)))⟩],[],[]⟩ ?_ ?_
 refine aN [false] (by kernel_rfl) (fun ρ σ => ?_)
 refine kTS [1,2,3,4] [23,21,20,2,7,8,9] 5 [(23,aI (K6.wrap (((8 * j : Nat) : Int) + 8))),(21,aI ((8 * j : Nat) : Int)),(20,.v (.string t)),(2,.v (.string t)),(7,.p 0 0),(8,aI (t.size : Int)),(9,aI ((8 * j : Nat) : Int))] <| xe_nv [23,21,20,2,7,8,9] [(23,aI (K6.wrap (((8 * j : Nat) : Int) + 8)))] [(23,aI (((8 * j : Nat) : Int) + 8))] (by rw [show (K6.wrap (((8 * j : Nat) : Int) + 8)) = (((8 * j : Nat) : Int) + 8) from aY (by omega) (by omega)]) (by kernel_rfl) ?_
 refine kX 5 (.string (t.extract (((8 * j : Nat) : Int)).toNat (((8 * j : Nat) : Int) + 8).toNat)) rfl (fun _ _ ww hA => act_slS (((8 * j : Nat) : Int)) (((8 * j : Nat) : Int) + 8) hA rfl (by kernel_rfl) rfl rfl rfl (by omega) (by omega) (by omega) ww) ?_
 refine kA [0,6] ⟨?_,?_⟩
 refine dz 0 (.v (.agg (aX z).toArray)) rfl <| kA [6] <| cw 6 132 [.string (t.extract (((8 * j : Nat) : Int)).toNat (((8 * j : Nat) : Int) + 8).toNat)] (some 25) rfl (ai fun ww hf => yl10Low_c (t.extract (((8 * j : Nat) : Int)).toNat (((8 * j : Nat) : Int) + 8).toNat) ww (by rw [ByteArray.size_extract]; omega)) ?_
 intro _
 refine kA [7] <| cw 7 131 [.agg (aX z).toArray,.int .u64 (dy (t.extract (((8 * j : Nat) : Int)).toNat (((8 * j : Nat) : Int) + 8).toNat))] (some 26) rfl (ai fun ww hf => ysSipWord_c z (dy (t.extract (((8 * j : Nat) : Int)).toNat (((8 * j : Nat) : Int) + 8).toNat)) ww) ?_
 intro _
 refine kA [8] <| kSS 8 0 0 (aX (aM z (dy (t.extract (((8 * j : Nat) : Int)).toNat (((8 * j : Nat) : Int) + 8).toNat)))) rfl <| kZ ?_
 exact kF 1 0 [2,7,8,9]
 refine cw 6 132 [.string (t.extract (((8 * j : Nat) : Int)).toNat (((8 * j : Nat) : Int) + 8).toNat)] (some 25) rfl (ai fun ww hf => yl10Low_c (t.extract (((8 * j : Nat) : Int)).toNat (((8 * j : Nat) : Int) + 8).toNat) ww (by rw [ByteArray.size_extract]; omega)) ?_
 intro _
 refine kA [0] <| dz 0 (.v (.agg (aX z).toArray)) rfl <| kA [7] <| cw 7 131 [.agg (aX z).toArray,.int .u64 (dy (t.extract (((8 * j : Nat) : Int)).toNat (((8 * j : Nat) : Int) + 8).toNat))] (some 26) rfl (ai fun ww hf => ysSipWord_c z (dy (t.extract (((8 * j : Nat) : Int)).toNat (((8 * j : Nat) : Int) + 8).toNat)) ww) ?_
 intro _
 refine kA [8] <| kSS 8 0 0 (aX (aM z (dy (t.extract (((8 * j : Nat) : Int)).toNat (((8 * j : Nat) : Int) + 8).toNat)))) rfl <| kZ ?_
 exact kF 1 0 [2,7,8,9]
 refine kG <| kRD 3 [2,7,8,9] [(9,aI (K6.wrap (((8 * j : Nat) : Int) + 8)))] <| bX [2,7,8,9] [(9,aI (K6.wrap (((8 * j : Nat) : Int) + 8)))] [(9,aI (((8 * j : Nat) : Int) + 8))] (by rw [show (K6.wrap (((8 * j : Nat) : Int) + 8)) = (((8 * j : Nat) : Int) + 8) from aY (by omega) (by omega)]) (by kernel_rfl) ?_
 refine aH [2,7,8,9] [] ?_
 exact ⟨⟨(j + 1,(aM z (dy (t.extract (((8 * j : Nat) : Int)).toNat (((8 * j : Nat) : Int) + 8).toNat)))),⟨(by omega),(by first | exact sip_stepS HZ hj8 (by omega) (by omega) | (rw [sip_stepS HZ hj8 (by omega) (by omega)]))⟩⟩,kF 1 0 [2,7,8,9],by show (fun (j : Nat) (z : Sip) => t.size - 8 * j) (j + 1) (aM z (dy (t.extract (((8 * j : Nat) : Int)).toNat (((8 * j : Nat) : Int) + 8).toNat))) < t.size - 8 * j; (dsimp only; omega)⟩
 have h1p := of_decide_eq_false h1
 have hj8 : ¬ 8 * j + 8 ≤ t.size := by have := of_decide_eq_false h1; omega
 refine bF <| kS <| aN [] (by kernel_rfl) (fun ρ σ => ?_)
 refine kTS [0,1,2,5] [34,31,30,29] 9 [(34,aI (t.size : Int)),(31,aI ((8 * j : Nat) : Int)),(30,.v (.string t)),(29,.v (.agg (aX z).toArray))] <| kX 3 (.string (t.extract (((8 * j : Nat) : Int)).toNat t.size)) rfl (fun _ _ ww hA => act_slSe (((8 * j : Nat) : Int)) hA rfl (by kernel_rfl) rfl rfl (by omega) (by omega) ww) ?_
 refine kX 6 (iI (Int.tmod (t.size : Int) 256)) rfl (fun _ _ ww hA => az hA rfl (by kernel_rfl) (by kernel_rfl) (cH (by first | decide | omega) ww)) ?_
 refine kTS [7] [36,32,29] 6 [(36,.v (.int .u64 (IntKind.u64.wrap (Int.tmod (t.size : Int) 256)))),(32,.v (.string (t.extract (((8 * j : Nat) : Int)).toNat t.size))),(29,.v (.agg (aX z).toArray))] <| kX 8 (.int .u64 (IntKind.u64.wrap ((IntKind.u64.wrap (Int.tmod (t.size : Int) 256)) * 2 ^ (56 : Int).toNat))) rfl (fun _ _ ww hA => az hA rfl (by kernel_rfl) (by kernel_rfl) (bG (k' := .u64) (by decide) (by decide) ww)) ?_
 refine kA [4] <| cw 4 132 [.string (t.extract (((8 * j : Nat) : Int)).toNat t.size)] (some 33) rfl (ai fun ww hf => yl10Low_c (t.extract (((8 * j : Nat) : Int)).toNat t.size) ww (by rw [ByteArray.size_extract]; omega)) ?_
 intro _
 refine kTS [9] [38,29] 3 [(38,.v (.int .u64 (IntKind.u64.wrap (BitVec.ofInt 64 (dy (t.extract (((8 * j : Nat) : Int)).toNat t.size)) ||| BitVec.ofInt 64 (IntKind.u64.wrap ((IntKind.u64.wrap (Int.tmod (t.size : Int) 256)) * 2 ^ (56 : Int).toNat))).toNat))),(29,.v (.agg (aX z).toArray))] <| kA [10] <| cw 10 131 [.agg (aX z).toArray,.int .u64 (IntKind.u64.wrap (BitVec.ofInt 64 (dy (t.extract (((8 * j : Nat) : Int)).toNat t.size)) ||| BitVec.ofInt 64 (IntKind.u64.wrap ((IntKind.u64.wrap (Int.tmod (t.size : Int) 256)) * 2 ^ (56 : Int).toNat))).toNat)] (some 39) rfl (ai fun ww hf => ysSipWord_c z (IntKind.u64.wrap (BitVec.ofInt 64 (dy (t.extract (((8 * j : Nat) : Int)).toNat t.size)) ||| BitVec.ofInt 64 (IntKind.u64.wrap ((IntKind.u64.wrap (Int.tmod (t.size : Int) 256)) * 2 ^ (56 : Int).toNat))).toNat) ww) ?_
 intro _
 refine kA [11] <| cw 11 133 [.agg (aX (aM z (IntKind.u64.wrap (BitVec.ofInt 64 (dy (t.extract (((8 * j : Nat) : Int)).toNat t.size)) ||| BitVec.ofInt 64 (IntKind.u64.wrap ((IntKind.u64.wrap (Int.tmod (t.size : Int) 256)) * 2 ^ (56 : Int).toNat))).toNat))).toArray] (some 40) rfl (ai fun ww hf => ysSipEnd_c (aM z (IntKind.u64.wrap (BitVec.ofInt 64 (dy (t.extract (((8 * j : Nat) : Int)).toNat t.size)) ||| BitVec.ofInt 64 (IntKind.u64.wrap ((IntKind.u64.wrap (Int.tmod (t.size : Int) 256)) * 2 ^ (56 : Int).toNat))).toNat)) ww) ?_
 intro _
 refine kTS [12] [6] 0 [(6,.v (.int .u64 (cD (aM z (IntKind.u64.wrap (BitVec.ofInt 64 (dy (t.extract (((8 * j : Nat) : Int)).toNat t.size)) ||| BitVec.ofInt 64 (IntKind.u64.wrap ((IntKind.u64.wrap (Int.tmod (t.size : Int) 256)) * 2 ^ (56 : Int).toNat))).toNat)))))] <| kZ <| kR ?_
 exact ⟨[.int .u64 (cD (aM z (IntKind.u64.wrap (BitVec.ofInt 64 (dy (t.extract (((8 * j : Nat) : Int)).toNat t.size)) ||| BitVec.ofInt 64 (IntKind.u64.wrap ((IntKind.u64.wrap (Int.tmod (t.size : Int) 256)) * 2 ^ (56 : Int).toNat))).toNat)))],by kernel_rfl,fun w' hb hf => ⟨ret_u64 (by show _ = bN k l t; unfold bN; exact sip_endS HZ hj hj8 (by omega)),hb⟩⟩
theorem yiSipHash_c (k : Int) (l : Int) (t : ByteArray) (w : World) (hsz : t.size ≤ 1048576) : Calls Try.prog 111 #[.int .u64 k, .int .u64 l, .string t] w fun e w' => e = .returned (.int .u64 (bN k l t)) ∧ Below w.heap.size w w' := by
 refine aq (args := [.int .u64 k,.int .u64 l,.string t]) (fn := Try.f111) [] Try.func111 rfl Try.ntmps111 rfl (by simp) ?_
 refine kQ <| bH [0,1,2] ⟨[(0,.v (.int .u64 k)),(1,.v (.int .u64 l)),(2,.v (.string t))],[],[],[]⟩ <| kQ <| ci 2 [2,10,11] [(10,.v (.int .u64 k)),(11,.v (.int .u64 l))] 134 [.int .u64 k,.int .u64 l] (some 12) rfl (ai fun ww hf => yiSipStart_c k l ww) ?_
 intro _
 refine kEA [2,7] [(7,.p 0 0)] [⟨170,aX (ca k l)⟩] <| kQ <| kHD 1 [2,7,13] [(13,.v (.string t))] rfl (hv_s2b (src := 9) (dst := 168) (e := 5) (t := t) (u := .string) rfl (by kernel_rfl) (by kernel_rfl) (by kernel_rfl) (by kernel_rfl) (by unfold maxLen; omega)) ?_
 rintro ⟨g1,g1c⟩
 refine aH [2,7,8] [(8,.v (.slice (some ⟨g1,0,none⟩) t.size g1c))] <| kS <| aZ <| xw_wk ((wk_pick [0] [bytF w.heap.size g1 5 t.size g1c (ac t)] (by kernel_rfl) (by kernel_rfl)).trans (wk_turn (fun _ _ _ _ h => byt_new h))) ?_
 refine bk (α := {x : Nat × Option Addr × Nat × Nat × Sip // (fun (j : Nat) (Ab : Option Addr) (nb : Nat) (cb : Nat) (z : Sip) => 8 * j ≤ t.size ∧ nb = t.size - 8 * j ∧ z = sipF (fun q => aW t q) j (ca k l)) x.1 x.2.1 x.2.2.1 x.2.2.2.1 x.2.2.2.2}) (fun x => (fun (j : Nat) (Ab : Option Addr) (nb : Nat) (cb : Nat) (z : Sip) => (⟨[(2,.v (.string t)),(7,.p 0 0),(8,.v (.slice Ab nb cb))],[⟨170,aX z⟩],[],[newF w.heap.size (.slice Ab nb cb) 1 (((ac t).drop (8 * j)).map bR)]⟩ : St)) x.1.1 x.1.2.1 x.1.2.2.1 x.1.2.2.2.1 x.1.2.2.2.2) (fun x => (fun (j : Nat) (Ab : Option Addr) (nb : Nat) (cb : Nat) (z : Sip) => t.size - 8 * j) x.1.1 x.1.2.1 x.1.2.2.1 x.1.2.2.2.1 x.1.2.2.2.2) ⟨(0,(some ⟨g1,0,none⟩),t.size,g1c,(ca k l)),⟨Nat.zero_le _,(by dsimp only; omega),rfl⟩⟩ (kF 1 0 [2,7,8]) ?_
 rintro ⟨⟨j,Ab,nb,cb,z⟩,hj,hnb,HZ⟩
 try dsimp only
 try dsimp only at hj hnb HZ
 refine kS <| kQ <| aH [2,7,8,17] [(17,aB (decide (((nb : Nat) : Int) ≥ 8)))] <| kC (decide (((nb : Nat) : Int) ≥ 8)) (fun h2 => ?_) (fun h2 => ?_)
 have h2p := of_decide_eq_true h2
 have hj8 :  8 * j + 8 ≤ t.size := by have := of_decide_eq_true h2; omega
 refine kK <| aZ <| kS <| cM ⟨[(2,.v (.string t)),(7,.p 0 0),(8,.v (.slice Ab nb cb))],[⟨170,aX (aM z (cB ((ac t).drop (8 * j))))⟩],[],[newF w.heap.size (.slice Ab nb cb) 1 (((ac t).drop (8 * j)).map bR)]⟩ ?_ ?_
 refine aN [false] (by kernel_rfl) (fun ρ σ => ?_)
 refine kTS [1] [19,2,7,8] 4 [(19,.v (.slice Ab nb cb)),(2,.v (.string t)),(7,.p 0 0),(8,.v (.slice Ab nb cb))] <| kA [0,2] ⟨?_,?_⟩
 refine dz 0 (.v (.agg (aX z).toArray)) rfl <| kA [2] <| cw 2 136 [.slice Ab nb cb] (some 20) rfl (ai fun ww hf => yLittle_c ((ac t).drop (8 * j)) (.slice Ab nb cb) ww (hf _ m0).1 (by rw [List.length_drop,cy]; omega)) ?_
 intro _
 refine kA [3] <| cw 3 135 [.agg (aX z).toArray,.int .u64 (cB ((ac t).drop (8 * j)))] (some 21) rfl (ai fun ww hf => yiSipWord_c z (cB ((ac t).drop (8 * j))) ww) ?_
 intro _
 refine kA [4] <| kSS 4 0 0 (aX (aM z (cB ((ac t).drop (8 * j))))) rfl <| kZ ?_
 exact kF 1 0 [2,7,8]
 refine cw 2 136 [.slice Ab nb cb] (some 20) rfl (ai fun ww hf => yLittle_c ((ac t).drop (8 * j)) (.slice Ab nb cb) ww (hf _ m0).1 (by rw [List.length_drop,cy]; omega)) ?_
 intro _
 refine kA [0] <| dz 0 (.v (.agg (aX z).toArray)) rfl <| kA [3] <| cw 3 135 [.agg (aX z).toArray,.int .u64 (cB ((ac t).drop (8 * j)))] (some 21) rfl (ai fun ww hf => yiSipWord_c z (cB ((ac t).drop (8 * j))) ww) ?_
 intro _
 refine kA [4] <| kSS 4 0 0 (aX (aM z (cB ((ac t).drop (8 * j))))) rfl <| kZ ?_
 exact kF 1 0 [2,7,8]
 refine kG <| cU 1 [2,7,8,22] [(22,.v (.slice Ab nb cb))] (.slice (if cb = 8 then Ab else Ab.map (·.add (8 * 1))) (nb - 8) (cb - 8)) rfl (fun _ _ _ ww hr => act_slVe (e := 5) (A := Ab) (len := nb) (cap := cb) (K := 1) (k := .i64) (p' := 8) 8 hr.1 rfl (by kernel_rfl) (by kernel_rfl) (by kernel_rfl) (by kernel_rfl) rfl (by omega) ww) ?_
 refine aH [2,7,8] [(8,.v (.slice (if cb = 8 then Ab else Ab.map (·.add (8 * 1))) (nb - 8) (cb - 8)))] ?_
 exact ⟨⟨(j + 1,(if cb = 8 then Ab else Ab.map (·.add (8 * 1))),(nb - 8),(cb - 8),(aM z (cB ((ac t).drop (8 * j))))),⟨(by omega),(by dsimp only; omega),sip_stepL HZ hj8⟩⟩,kPk [0] <| (wk_turn (fs' := [newF w.heap.size (.slice (if cb = 8 then Ab else Ab.map (·.add (8 * 1))) (nb - 8) (cb - 8)) 1 (((ac t).drop (8 * (j + 1))).map bR)]) (fun _ _ _ _ h => new_tail (by omega) h)).trans <| kF 1 0 [2,7,8],by show (fun (j : Nat) (Ab : Option Addr) (nb : Nat) (cb : Nat) (z : Sip) => t.size - 8 * j) (j + 1) (if cb = 8 then Ab else Ab.map (·.add (8 * 1))) (nb - 8) (cb - 8) (aM z (cB ((ac t).drop (8 * j)))) < t.size - 8 * j; (dsimp only; omega)⟩
 have h2p := of_decide_eq_false h2
 have hj8 : ¬ 8 * j + 8 ≤ t.size := by have := of_decide_eq_false h2; omega
 refine bF <| kQ <| kHD 0 [2,7,8] [] rfl (hv_make (kl := .i64) (kc := .i64) (e := 5) (K := 1) (bytes := 1) (m := 8) (z := .int .u8 0) (rs := (List.replicate 8 0).map bR) rfl (by kernel_rfl) (by kernel_rfl) (by kernel_rfl) (by kernel_rfl) (by (try simp only [List.length_map,List.length_append,List.length_cons,List.length_nil,List.length_take,List.length_drop,maxLen]); omega) (by (try simp only [List.length_map,List.length_append,List.length_cons,List.length_nil,List.length_take,List.length_drop,maxLen]); omega) (by rw [List.map_replicate]; rfl)) ?_
 intro g3
 refine aH [2,7,8,9] [(9,.v (.slice (some ⟨g3,0,none⟩) 8 8))] <| kQ <| kHD 2 [2,7,9,25,26] [(25,.v (.slice (some ⟨g3,0,none⟩) 8 8)),(26,.v (.slice Ab nb cb))] rfl (hv_copyB (T := 168) (e := 5) (bytes := 1) (i := 0) (B := w.heap.size) (g := g3) (N := 8) (cap := 8) (sv := .slice Ab nb cb) (L := (List.replicate 8 0)) (l := ((ac t).drop (8 * j))) rfl rfl rfl rfl (by kernel_rfl) (by kernel_rfl) (by kernel_rfl) (by kernel_rfl) (by simp) (fun _ _ _ _ hr => ((hr.2.fact (newF w.heap.size (.slice Ab nb cb) 1 (((ac t).drop (8 * j)).map bR)) (by simp)).1).1) (by rw [List.length_drop,cy]; omega) (Nat.le_refl _) rfl) ?_
 intro _
 refine aH [2,7,9] [] <| kS ?_
 obtain ⟨y7,hy7⟩ : ∃ y,(((ac t).drop (8 * j)) ++ (List.replicate 8 0).drop ((ac t).drop (8 * j)).length)[7]? = some y := ⟨_,List.getElem?_eq_getElem (by simp only [List.length_append,List.length_drop,List.length_replicate,cy]; omega)⟩
 refine kG <| cU 4 [7,9,28,31] [(28,.v (.slice (some ⟨g3,0,none⟩) 8 8)),(31,.v (.int .u8 (IntKind.u8.wrap (t.size : Int))))] (.pointer (some ⟨g3,7 * 1,none⟩)) rfl (fun _ _ _ ww hr => act_ix (kd := .i64) (T := 168) (e := 5) (K := 1) (g := g3) (N := 8) (cap := 8) 7 rfl hr.1 rfl rfl (by kernel_rfl) (by kernel_rfl) (by kernel_rfl) (by decide) ww) ?_
 refine xl_hs 0 [7,9,31,32] ⟨[(7,.p 0 0),(9,.v (.slice (some ⟨g3,0,none⟩) 8 8)),(31,.v (.int .u8 (IntKind.u8.wrap (t.size : Int)))),(32,.v (.pointer (some ⟨g3,7 * 1,none⟩)))],[⟨170,aX z⟩],[],[bU w.heap.size 5 1 (.slice (some ⟨g3,0,none⟩) 8 8) ((((ac t).drop (8 * j)) ++ (List.replicate 8 0).drop ((ac t).drop (8 * j)).length).map bR),newF w.heap.size (.slice Ab nb cb) 1 (((ac t).drop (8 * j)).map bR)]⟩ (by kernel_rfl) rfl (by kernel_rfl) rfl (by kernel_rfl) (HSg.hs (hs_stR (g := g3) (B := w.heap.size) (e := 5) (K := 1) (N := 8) (cap := 8) (rs := ((((ac t).drop (8 * j)) ++ (List.replicate 8 0).drop ((ac t).drop (8 * j)).length).map bR)) (rs' := ((((ac t).drop (8 * j)) ++ (List.replicate 8 0).drop ((ac t).drop (8 * j)).length).set 7 (IntKind.u8.wrap (t.size : Int))).map bR) (v := (.int .u8 (IntKind.u8.wrap (t.size : Int)))) (i := 0) (off := 7 * 1) 7 0 [.int .u8 y7] (row' := [.int .u8 (IntKind.u8.wrap (t.size : Int))]) rfl rfl (by kernel_rfl) rfl (by kernel_rfl) (by kernel_rfl) (by kernel_rfl) (by kernel_rfl) (Nat.le_refl _) (by simp only [List.getElem?_map,hy7]; rfl) (by kernel_rfl) rfl (by rw [List.map_set]; rfl))) ?_
 refine bZ [7,9] [(7,.p 0 0),(9,.v (.slice (some ⟨g3,0,none⟩) 8 8))] <| kS ?_
 obtain ⟨BL,hBL⟩ : ∃ q : List Int,q = ((((ac t).drop (8 * j)) ++ (List.replicate 8 0).drop ((ac t).drop (8 * j)).length).set 7 (IntKind.u8.wrap (t.size : Int))) := ⟨_,rfl⟩
 refine xw_eq (st' := ⟨[(7,.p 0 0),(9,.v (.slice (some ⟨g3,0,none⟩) 8 8))],[⟨170,aX z⟩],[],[bU w.heap.size 5 1 (.slice (some ⟨g3,0,none⟩) 8 8) (BL.map bR),newF w.heap.size (.slice Ab nb cb) 1 (((ac t).drop (8 * j)).map bR)]⟩) (by rw [hBL] <;> rfl) ?_
 refine aN [] (by kernel_rfl) (fun ρ σ => ?_)
 refine kTS [0,1] [34,33] 4 [(34,.v (.slice (some ⟨g3,0,none⟩) 8 8)),(33,.v (.agg (aX z).toArray))] <| kA [2] <| cw 2 136 [.slice (some ⟨g3,0,none⟩) 8 8] (some 35) rfl (ai fun ww hf => yLittle_c BL (.slice (some ⟨g3,0,none⟩) 8 8) ww (cA (hf _ m0)) (by rw [hBL]; simp only [List.length_set,List.length_append,List.length_drop,List.length_replicate,cy]; omega)) ?_
 intro _
 refine kA [3] <| cw 3 135 [.agg (aX z).toArray,.int .u64 (cB BL)] (some 36) rfl (ai fun ww hf => yiSipWord_c z (cB BL) ww) ?_
 intro _
 refine kA [4] <| cw 4 137 [.agg (aX (aM z (cB BL))).toArray] (some 37) rfl (ai fun ww hf => yiSipEnd_c (aM z (cB BL)) ww) ?_
 intro _
 refine kTS [5] [6] 0 [(6,.v (.int .u64 (cD (aM z (cB BL)))))] <| kZ <| kR ?_
 exact ⟨[.int .u64 (cD (aM z (cB BL)))],by kernel_rfl,fun w' hb hf => ⟨ret_u64 (by show _ = bN k l t; unfold bN; exact (by rw [hBL]; exact sip_endL HZ hj hj8)),hb⟩⟩
def cd (i : Int) : Int := if bx i 0 7 then ([64, 256, 536, 1024, 1300, 1400, 1440, 1460] : List Int).getD i.toNat 0 else 0
theorem mssOf_no {i : Int} (h : bx i 0 7 = false) : cd i = 0 := by unfold cd; rw [h]; rfl
theorem mssOf_at {i : Int} {n : Nat} {z : Int} (h : bx i 0 7 = true) (hn : i = (n : Int)) (hz : ([64, 256, 536, 1024, 1300, 1400, 1440, 1460] : List Int)[n]? = some z) : cd i = z := by
 unfold cd; rw [h,if_pos rfl,hn,Int.toNat_natCast,List.getD_eq_getElem?_getD,hz]; rfl
theorem inB_nat {i hi : Int} (h : bx i 0 hi = true) : ∃ n : Nat, i = (n : Int) ∧ (n : Int) ≤ hi := by
 unfold bx at h; simp only [Bool.and_eq_true,decide_eq_true_eq] at h; exact ⟨i.toNat,by omega,by omega⟩
def cL (m : Int) : Nat → Int
 | 0 => 0
 | k + 1 => if cd ((k + 1 : Nat) : Int) ≤ m then ((k + 1 : Nat) : Int) else cL m k
def aj (m : Int) : Int := cL m 7
theorem mi_down {m : Int} {k : Nat} (hk : 0 < k) (h : ¬ cd (k : Int) ≤ m) (hm : aj m = cL m k) : aj m = cL m (k - 1) := by
 obtain ⟨j,rfl⟩ : ∃ j,k = j + 1 := ⟨k - 1,by omega⟩
 rw [hm,cL,if_neg h]; rfl
theorem mi_hit {m : Int} {k : Nat} (hk : 0 < k) (h : cd (k : Int) ≤ m) (hm : aj m = cL m k) : (k : Int) = aj m := by
 obtain ⟨j,rfl⟩ : ∃ j,k = j + 1 := ⟨k - 1,by omega⟩
 rw [hm,cL,if_pos h]
theorem mi_up_yes {m : Int} {i : Nat} (h : cd (i : Int) ≤ m) : (i : Int) = cL m (i + 1 - 1) := by
 cases i with
 | zero => rfl
 | succ j => show _ = cL m (j + 1); rw [cL,if_pos h]
theorem mi_up_no {m o : Int} {i : Nat} (h : ¬ cd (i : Int) ≤ m) (ho : o = cL m (i - 1)) : o = cL m (i + 1 - 1) := by
 rw [ho]
 cases i with
 | zero => rfl
 | succ j => show cL m j = cL m (j + 1); rw [cL,if_neg h]
theorem ysMssOf_c (i : Int) (w : World)  : Calls Try.prog 76 #[iI i] w fun e w' => e = .returned (iI (cd i)) ∧ Below w.heap.size w w' := by
 refine aq (args := [iI i]) (fn := Try.f76) [] Try.func76 rfl Try.ntmps76 rfl (by simp) ?_
 refine kQ <| bH [0] ⟨[(0,aI i)],[],[],[]⟩ <| kS <| kQ <| ci 1 [0,3] [(3,aI i)] 46 [iI i,iI 0,iI 7] (some 4) rfl (xc_s fun ww hf => l1In_c i 0 7 ww ) ?_
 intro _
 refine aH [0,5] [(5,aB (!(bx i 0 7)))] <| kC (!(bx i 0 7)) (fun h1 => ?_) (fun h1 => ?_)
 have h1n := cR h1
 have h1ni := inB_ff.1 (show bx i 0 7 = false from by simpa using h1n)
 have hmz := mssOf_no h1n
 refine kQ <| bZ [2] [(2,aI 0)] <| kR ?_
 exact ⟨[iI 0],by kernel_rfl,fun w' hb hf => ⟨b9 (show (0 : Int) = cd i from by first | exact hmz.symm | exact hma.symm),hb⟩⟩
 have h1n := cV h1
 have h1ni := inB_tt.1 (show bx i 0 7 = true from by simpa using h1n)
 have hin := h1n
 obtain ⟨n,hn,hn7⟩ := inB_nat hin
 obtain ⟨z,hz⟩ : ∃ z,([64,256,536,1024,1300,1400,1440,1460] : List Int)[n]? = some z := ⟨_,List.getElem?_eq_getElem (by show n < 8; omega)⟩
 have hma := mssOf_at hin hn hz
 refine xw_eq (st' := ⟨[(0,aI (n : Int)),(5,aB (!(bx i 0 7)))],[],[],[]⟩) (by rw [hn] <;> rfl) ?_
 refine kK <| kQ <| xl_hv 0 [0] ⟨[(0,aI (n : Int))],[],[],[]⟩ (by kernel_rfl) rfl (by kernel_rfl) rfl (by kernel_rfl) (hv_bK (e := 3) (K := 1) (bytes := 8) [iI 64,iI 256,iI 536,iI 1024,iI 1300,iI 1400,iI 1440,iI 1460] (rs := ([64,256,536,1024,1300,1400,1440,1460] : List Int).map intRow) rfl rfl) ?_
 intro g2
 refine cU 1 [6,7] [(7,aI (n : Int))] (.pointer (some ⟨g2,n * 1,none⟩)) rfl (fun _ _ _ ww hr => act_ix (kd := .i64) (T := 150) (e := 3) (K := 1) (g := g2) (N := 8) (cap := 8) n rfl hr.1 rfl rfl (by kernel_rfl) (by kernel_rfl) (by kernel_rfl) (by show n < 8; omega) ww) ?_
 refine cU 0 [8] [] (iI z) rfl (fun _ _ _ ww hr => ldR_run (po := 0) (j := n) (row := [iI z]) (bU w.heap.size 3 1 (.slice (some ⟨g2,0,none⟩) 8 8) (([64,256,536,1024,1300,1400,1440,1460] : List Int).map intRow)) hr rfl (by kernel_rfl) (by simp) (by simp only [List.getElem?_map,hz]; rfl) (by kernel_rfl) rfl rfl rfl) ?_
 refine bZ [2] [(2,aI z)] <| kR ?_
 exact ⟨[iI z],by kernel_rfl,fun w' hb hf => ⟨b9 (show (z : Int) = cd i from by first | exact hmz.symm | exact hma.symm),hb⟩⟩
theorem yiMssOf_c (i : Int) (w : World)  : Calls Try.prog 79 #[iI i] w fun e w' => e = .returned (iI (cd i)) ∧ Below w.heap.size w w' := by
 refine aq (args := [iI i]) (fn := Try.f79) [] Try.func79 rfl Try.ntmps79 rfl (by simp) ?_
 refine kQ <| bH [0] ⟨[(0,aI i)],[],[],[]⟩ <| kQ <| kHD 0 [0] [] rfl (hv_bK (e := 3) (K := 1) (bytes := 8) [iI 64,iI 256,iI 536,iI 1024,iI 1300,iI 1400,iI 1440,iI 1460] (rs := ([64,256,536,1024,1300,1400,1440,1460] : List Int).map intRow) rfl rfl) ?_
 intro g1
 refine aH [0,3] [(3,.v (.slice (some ⟨g1,0,none⟩) 8 8))] <| kS <| kQ <| ci 4 [0,3,5,8] [(5,aI i),(8,aI 7)] 52 [iI i,iI 0,iI 7] (some 9) rfl (xc_s fun ww hf => cJ i 0 7 ww ) ?_
 intro _
 refine aH [0,3,10] [(10,aB (!(bx i 0 7)))] <| kC (!(bx i 0 7)) (fun h2 => ?_) (fun h2 => ?_)
 have h2n := cR h2
 have h2ni := inB_ff.1 (show bx i 0 7 = false from by simpa using h2n)
 have hmz := mssOf_no h2n
 refine kQ <| bZ [2] [(2,aI 0)] <| kR ?_
 exact ⟨[iI 0],by kernel_rfl,fun w' hb hf => ⟨b9 (show (0 : Int) = cd i from by first | exact hmz.symm | exact hma.symm),hb⟩⟩
 have h2n := cV h2
 have h2ni := inB_tt.1 (show bx i 0 7 = true from by simpa using h2n)
 have hin := h2n
 obtain ⟨n,hn,hn7⟩ := inB_nat hin
 obtain ⟨z,hz⟩ : ∃ z,([64,256,536,1024,1300,1400,1440,1460] : List Int)[n]? = some z := ⟨_,List.getElem?_eq_getElem (by show n < 8; omega)⟩
 have hma := mssOf_at hin hn hz
 refine xw_eq (st' := ⟨[(0,aI (n : Int)),(3,.v (.slice (some ⟨g1,0,none⟩) 8 8)),(10,aB (!(bx i 0 7)))],[],[],[bU w.heap.size 3 1 (.slice (some ⟨g1,0,none⟩) 8 8) (([64,256,536,1024,1300,1400,1440,1460] : List Int).map intRow)]⟩) (by rw [hn] <;> rfl) ?_
 refine kK <| kQ <| kOF 2 [11,12] ⟨[(11,.v (.slice (some ⟨g1,0,none⟩) 8 8)),(12,aI (n : Int))],[],[],[bU w.heap.size 3 1 (.slice (some ⟨g1,0,none⟩) 8 8) (([64,256,536,1024,1300,1400,1440,1460] : List Int).map intRow)]⟩ (.pointer (some ⟨g1,n * 1,none⟩)) rfl (fun _ _ _ ww hr => act_ix (kd := .i64) (T := 150) (e := 3) (K := 1) (g := g1) (N := 8) (cap := 8) n rfl hr.1 rfl rfl (by kernel_rfl) (by kernel_rfl) (by kernel_rfl) (by show n < 8; omega) ww) ?_
 refine cU 0 [13] [] (iI z) rfl (fun _ _ _ ww hr => ldR_run (po := 0) (j := n) (row := [iI z]) (bU w.heap.size 3 1 (.slice (some ⟨g1,0,none⟩) 8 8) (([64,256,536,1024,1300,1400,1440,1460] : List Int).map intRow)) hr rfl (by kernel_rfl) (by simp) (by simp only [List.getElem?_map,hz]; rfl) (by kernel_rfl) rfl rfl rfl) ?_
 refine bZ [2] [(2,aI z)] <| kR ?_
 exact ⟨[iI z],by kernel_rfl,fun w' hb hf => ⟨b9 (show (z : Int) = cd i from by first | exact hmz.symm | exact hma.symm),hb⟩⟩
theorem yiMssIndex_c (m : Int) (w : World)  : Calls Try.prog 40 #[iI m] w fun e w' => e = .returned (iI (aj m)) ∧ Below w.heap.size w w' := by
 refine aq (args := [iI m]) (fn := Try.f40) [] Try.func40 rfl Try.ntmps40 rfl (by simp) ?_
 refine kQ <| bH [0] ⟨[(0,aI m)],[],[],[]⟩ <| kS <| kQ <| aH [0,3] [(3,aI 7)] ?_
 refine aZ <| bk (α := {x : Nat // (fun (k : Nat) => k ≤ 7 ∧ aj m = cL m k) x}) (fun x => (fun (k : Nat) => (⟨[(0,aI m),(3,aI (k : Int))],[],[],[]⟩ : St)) x.1) (fun x => (fun (k : Nat) => k) x.1) ⟨(7),⟨Nat.le_refl 7,rfl⟩⟩ (kF 0 0 [0,3]) ?_
 rintro ⟨k,hk,HM⟩
 try dsimp only
 try dsimp only at hk HM
 refine kS <| kQ <| aH [0,3,5] [(5,aB (decide ((k : Int) > 0)))] <| kC (decide ((k : Int) > 0)) (fun h1 => ?_) (fun h1 => ?_)
 have h1p := of_decide_eq_true h1
 have hk0 : 0 < k := by have := of_decide_eq_true h1; omega
 refine kK <| kS <| aZ <| kQ <| ci 1 [0,3,8] [(8,aI (k : Int))] 79 [iI (k : Int)] (some 9) rfl (ai fun ww hf => yiMssOf_c (k : Int) ww ) ?_
 intro _
 refine aH [0,3,11] [(11,aB (decide ((cd (k : Int)) ≤ m)))] <| kC (decide ((cd (k : Int)) ≤ m)) (fun h2 => ?_) (fun h2 => ?_)
 have h2p := of_decide_eq_true h2
 have hhit := mi_hit hk0 (of_decide_eq_true h2) HM
 refine kQ <| bZ [2] [(2,aI (k : Int))] <| kR ?_
 exact ⟨[iI (k : Int)],by kernel_rfl,fun w' hb hf => ⟨b9 (show ((k : Int) : Int) = aj m from by first | exact hres.symm | exact hhit),hb⟩⟩
 have h2p := of_decide_eq_false h2
 have hnx := mi_down hk0 (of_decide_eq_false h2) HM
 refine kK <| kG <| kRD 3 [0,3] [(3,aI (K6.wrap ((k : Int) - 1)))] <| bX [0,3] [(3,aI (K6.wrap ((k : Int) - 1)))] [(3,aI ((k - 1 : Nat) : Int))] (by rw [show (K6.wrap ((k : Int) - 1)) = ((k - 1 : Nat) : Int) from (by rw [aY (by omega) (by omega)]; omega)]) (by kernel_rfl) ?_
 refine aH [0,3] [] ?_
 exact ⟨⟨(k - 1),⟨(by omega),hnx⟩⟩,kF 0 0 [0,3],by show (fun (k : Nat) => k) (k - 1) < k; (dsimp only; omega)⟩
 have h1p := of_decide_eq_false h1
 have hk0 : k = 0 := by have := of_decide_eq_false h1; omega
 have hres : aj m = 0 := by rw [HM,hk0]; rfl
 refine bF <| kQ <| bZ [2] [(2,aI 0)] <| kR ?_
 exact ⟨[iI 0],by kernel_rfl,fun w' hb hf => ⟨b9 (show (0 : Int) = aj m from by first | exact hres.symm | exact hhit),hb⟩⟩
theorem ysMssIndex_c (m : Int) (w : World)  : Calls Try.prog 37 #[iI m] w fun e w' => e = .returned (iI (aj m)) ∧ Below w.heap.size w w' := by
 refine aq (args := [iI m]) (fn := Try.f37) [] Try.func37 rfl Try.ntmps37 rfl (by simp) ?_
 refine kQ <| bH [0] ⟨[(0,aI m)],[],[],[]⟩ <| kQ <| aH [0,3] [(3,aI 0)] ?_
 refine kS <| kQ <| aH [0,3,4] [(4,aI 0)] <| aZ <| bk (α := {x : Nat × Int // (fun (i : Nat) (o : Int) => i ≤ 8 ∧ o = cL m (i - 1)) x.1 x.2}) (fun x => (fun (i : Nat) (o : Int) => (⟨[(0,aI m),(3,aI o),(4,aI (i : Int))],[],[],[]⟩ : St)) x.1.1 x.1.2) (fun x => (fun (i : Nat) (o : Int) => 8 - i) x.1.1 x.1.2) ⟨(0,0),⟨Nat.zero_le _,rfl⟩⟩ (kF 0 0 [0,3,4]) ?_
 rintro ⟨⟨i,o⟩,hi,HM⟩
 try dsimp only
 try dsimp only at hi HM
 refine kS <| kQ <| aH [0,3,4,6] [(6,aB (decide ((i : Int) < 8)))] <| kC (decide ((i : Int) < 8)) (fun h1 => ?_) (fun h1 => ?_)
 have h1p := of_decide_eq_true h1
 have hilt := of_decide_eq_true h1
 refine kK <| kS <| aZ <| kQ <| ci 1 [0,3,4,9] [(9,aI (i : Int))] 76 [iI (i : Int)] (some 10) rfl (ai fun ww hf => ysMssOf_c (i : Int) ww ) ?_
 intro _
 refine aH [0,3,4,12] [(12,aB (decide ((cd (i : Int)) ≤ m)))] <| kC (decide ((cd (i : Int)) ≤ m)) (fun h2 => ?_) (fun h2 => ?_)
 have h2p := of_decide_eq_true h2
 have hmy := of_decide_eq_true h2
 refine kG <| aH [0,3,4] [(3,aI (i : Int))] <| kG <| kRD 3 [0,3,4] [(4,aI (K6.wrap ((i : Int) + 1)))] ?_
 refine bX [0,3,4] [(4,aI (K6.wrap ((i : Int) + 1)))] [(4,aI ((i : Int) + 1))] (by rw [show (K6.wrap ((i : Int) + 1)) = ((i : Int) + 1) from aY (by omega) (by omega)]) (by kernel_rfl) ?_
 refine aH [0,3,4] [] ?_
 exact ⟨⟨(i + 1,(i : Int)),⟨(by omega),mi_up_yes hmy⟩⟩,kF 0 0 [0,3,4],by show (fun (i : Nat) (o : Int) => 8 - i) (i + 1) (i : Int) < 8 - i; (dsimp only; omega)⟩
 have h2p := of_decide_eq_false h2
 have hmn := of_decide_eq_false h2
 refine kK <| kG <| kRD 3 [0,3,4] [(4,aI (K6.wrap ((i : Int) + 1)))] <| bX [0,3,4] [(4,aI (K6.wrap ((i : Int) + 1)))] [(4,aI ((i : Int) + 1))] (by rw [show (K6.wrap ((i : Int) + 1)) = ((i : Int) + 1) from aY (by omega) (by omega)]) (by kernel_rfl) ?_
 refine aH [0,3,4] [] ?_
 exact ⟨⟨(i + 1,o),⟨(by omega),mi_up_no hmn HM⟩⟩,kF 0 0 [0,3,4],by show (fun (i : Nat) (o : Int) => 8 - i) (i + 1) o < 8 - i; (dsimp only; omega)⟩
 have h1p := of_decide_eq_false h1
 have hige := of_decide_eq_false h1
 have hres : o = aj m := by rw [HM,show i = 8 from by omega]; rfl
 refine bF <| kQ <| bZ [2] [(2,aI o)] <| kR ?_
 exact ⟨[iI o],by kernel_rfl,fun w' hb hf => ⟨b9 (show (o : Int) = aj m from by exact hres),hb⟩⟩
def pwL (n : Int) : Nat → List Int
 | 0 => []
 | k + 1 => pwL (n / 256) k ++ [n % 256]
theorem pwL_len (n : Int) (k : Nat) : (pwL n k).length = k := by
 induction k generalizing n with
 | zero => rfl
 | succ k ih => simp [pwL,ih]
def a9 (n size : Int) : ByteArray := if bx size 1 6 && aw n (8 * size) then bstr (pwL n size.toNat) else ⟨#[]⟩
theorem pw_step {n m b m2 : Int} {N k : Nat} {l : List Int} (h : pwL n N = pwL m (k + 1) ++ l.drop (k + 1)) (hl : l.length = N) (hk : k < N) (hb : b = m % 256) (hm : m2 = m / 256) : pwL n N = pwL m2 k ++ (l.set k b).drop k := by
 have h1 : (l.set k b).drop k = b :: l.drop (k + 1) := by
   rw [List.drop_eq_getElem_cons (i := k) (l := l.set k b) (by rw [List.length_set]; omega),List.getElem_set_self,List.drop_set,if_pos (by omega)]
 rw [h1,h,pwL,List.append_assoc,hb,hm]; rfl
theorem inB16 {size : Int} (h : bx size 1 6 = true) : ∃ N : Nat, size = (N : Int) ∧ (1 ≤ N ∧ N ≤ 6) := by
 unfold bx at h; simp only [Bool.and_eq_true,decide_eq_true_eq] at h; exact ⟨size.toNat,by omega,by omega⟩
theorem pw_no {n size : Int} (h : bx size 1 6 = false) : a9 n size = ⟨#[]⟩ := by unfold a9; rw [h]; rfl
theorem pw_no2 {n size : Int} (h : aw n (8 * size) = false) : a9 n size = ⟨#[]⟩ := by unfold a9; rw [h]; simp
theorem pw_yes {n size : Int} {l : List Int} (h : bx size 1 6 = true) (h2 : aw n (8 * size) = true) (hl : pwL n size.toNat = l) : a9 n size = bstr l := by unfold a9; rw [h, h2, ← hl]; rfl
theorem ah (n size : Int) : (a9 n size).size ≤ 6 := by
 unfold a9
 split
 · rename_i h
   simp only [Bool.and_eq_true] at h
   have h1 := h.1
   unfold bx at h1; simp only [Bool.and_eq_true,decide_eq_true_eq] at h1
   rw [bstr_size,pwL_len]; omega
 · exact Nat.zero_le _
theorem word0 {n b : Int} (h : aw n b = true) : 0 ≤ n ∧ n ≤ 4611686018427387903 := by
 unfold aw bx at h
 simp only [Bool.and_eq_true,decide_eq_true_eq] at h
 obtain ⟨⟨h1,h2⟩,h3,h4⟩ := h
 refine ⟨h3,?_⟩
 have h5 : (2 : Int) ^ b.toNat ≤ 2 ^ 62 := by exact_mod_cast Nat.pow_le_pow_right (by decide : 0 < 2) (by omega : b.toNat ≤ 62)
 have h6 : (2 : Int) ^ 62 = 4611686018427387904 := by decide
 omega
theorem pow62 {b : Int} (h : 1 ≤ b ∧ b ≤ 62) : 1 ≤ (2 : Int) ^ b.toNat ∧ (2 : Int) ^ b.toNat ≤ 4611686018427387904 := by
 have h5 : (2 : Int) ^ b.toNat ≤ 2 ^ 62 := by exact_mod_cast Nat.pow_le_pow_right (by decide : 0 < 2) (by omega : b.toNat ≤ 62)
 have h6 : (2 : Int) ^ 62 = 4611686018427387904 := by decide
 have h7 : 0 < (2 : Int) ^ b.toNat := by exact_mod_cast Nat.pow_pos (by decide : 0 < 2)
 omega
theorem wordG (n : Int) {b : Int} (h : bx b 1 62 = true) : bx n 0 (K6.wrap (K6.wrap (1 * 2 ^ b.toNat) - 1)) = aw n b := by
 have hb := h
 unfold bx at hb; simp only [Bool.and_eq_true,decide_eq_true_eq] at hb
 have hp := pow62 hb
 unfold aw
 rw [h,Bool.true_and,Int.one_mul,aY (n := 2 ^ b.toNat) (by omega) (by omega),aY (by omega) (by omega)]
theorem wordU (n : Int) {b : Int} (h : bx b 1 62 = true) : bx n 0 (K6.wrap (K6.wrap (1 * 2 ^ (IntKind.u64.wrap b).toNat) - 1)) = aw n b := by
 have hb := h
 unfold bx at hb; simp only [Bool.and_eq_true,decide_eq_true_eq] at hb
 rw [u64_id (by omega) (by omega)]; exact wordG n h
theorem wordNo (n : Int) {b : Int} (h : bx b 1 62 = false) : aw n b = false := by unfold aw; rw [h]; rfl
theorem ysWordOk_c (n : Int) (b : Int) (w : World)  : Calls Try.prog 42 #[iI n, iI b] w fun e w' => e = .returned (.bool (aw n b)) ∧ Below w.heap.size w w' := by
 refine aq (args := [iI n,iI b]) (fn := Try.f42) [] Try.func42 rfl Try.ntmps42 rfl (by simp) ?_
 refine kQ <| bH [0,1] ⟨[(0,aI n),(1,aI b)],[],[],[]⟩ <| kQ <| ci 1 [0,1,5] [(5,aI b)] 46 [iI b,iI 1,iI 62] (some 6) rfl (xc_s fun ww hf => l1In_c b 1 62 ww ) ?_
 intro _
 refine kRD 1 [0,1,7] [(7,aB (bx b 1 62))] <| kP 7 (bx b 1 62) (fun h1 => ?_) (fun h1 => ?_)
 have h1i := inB_tt.1 (show bx b 1 62 = true from by simpa using h1)
 have hwb := h1
 refine kOS 3 [7,8,10] [(7,aB true),(8,aI n),(10,.v (.int .u64 (IntKind.u64.wrap b)))] (iI (K6.wrap (1 * 2 ^ (IntKind.u64.wrap b).toNat))) rfl (fun _ _ _ ww hr => az hr.1 rfl (by kernel_rfl) (by kernel_rfl) (bG (k' := .u64) (by have e : ((IntKind.i64.bits : Nat) : Int) = 64 := rfl; (try rw [u64_id (by omega) (by omega)]); omega) (by have e : ((IntKind.i64.bits : Nat) : Int) = 64 := rfl; (try rw [u64_id (by omega) (by omega)]); omega) ww)) ?_
 refine ci 1 [7,8,12] [(12,aI (K6.wrap ((K6.wrap (1 * 2 ^ (IntKind.u64.wrap b).toNat)) - 1)))] 46 [iI n,iI 0,iI (K6.wrap ((K6.wrap (1 * 2 ^ (IntKind.u64.wrap b).toNat)) - 1))] (some 13) rfl (xc_s fun ww hf => l1In_c n 0 (K6.wrap ((K6.wrap (1 * 2 ^ (IntKind.u64.wrap b).toNat)) - 1)) ww ) ?_
 intro _
 refine bZ [4] [(4,aB (bx n 0 (K6.wrap ((K6.wrap (1 * 2 ^ (IntKind.u64.wrap b).toNat)) - 1))))] <| kR ?_
 exact ⟨[.bool (bx n 0 (K6.wrap ((K6.wrap (1 * 2 ^ (IntKind.u64.wrap b).toNat)) - 1)))],by kernel_rfl,fun w' hb hf => ⟨ret_bool (show (bx n 0 (K6.wrap ((K6.wrap (1 * 2 ^ (IntKind.u64.wrap b).toNat)) - 1)) : Bool) = aw n b from by first | exact (wordNo n hwb).symm | exact wordG n hwb | exact wordU n hwb),hb⟩⟩
 have h1i := inB_ff.1 (show bx b 1 62 = false from by simpa using h1)
 have hwb := h1
 refine bZ [4] [(4,aB false)] <| kR ?_
 exact ⟨[.bool false],by kernel_rfl,fun w' hb hf => ⟨ret_bool (show (false : Bool) = aw n b from by first | exact (wordNo n hwb).symm | exact wordG n hwb | exact wordU n hwb),hb⟩⟩
theorem yiWordOk_c (n : Int) (b : Int) (w : World)  : Calls Try.prog 48 #[iI n, iI b] w fun e w' => e = .returned (.bool (aw n b)) ∧ Below w.heap.size w w' := by
 refine aq (args := [iI n,iI b]) (fn := Try.f48) [] Try.func48 rfl Try.ntmps48 rfl (by simp) ?_
 refine kQ <| bH [0,1] ⟨[(0,aI n),(1,aI b)],[],[],[]⟩ <| kQ <| ci 1 [0,1,5] [(5,aI b)] 52 [iI b,iI 1,iI 62] (some 6) rfl (xc_s fun ww hf => cJ b 1 62 ww ) ?_
 intro _
 refine kRD 1 [0,1,7] [(7,aB (bx b 1 62))] <| kP 7 (bx b 1 62) (fun h1 => ?_) (fun h1 => ?_)
 have h1i := inB_tt.1 (show bx b 1 62 = true from by simpa using h1)
 have hwb := h1
 refine kOS 2 [7,8,9] [(7,aB true),(8,aI n),(9,aI b)] (iI (K6.wrap (1 * 2 ^ (b).toNat))) rfl (fun _ _ _ ww hr => az hr.1 rfl (by kernel_rfl) (by kernel_rfl) (bG (k' := .i64) (by have e : ((IntKind.i64.bits : Nat) : Int) = 64 := rfl; (try rw [u64_id (by omega) (by omega)]); omega) (by have e : ((IntKind.i64.bits : Nat) : Int) = 64 := rfl; (try rw [u64_id (by omega) (by omega)]); omega) ww)) ?_
 refine ci 1 [7,8,11] [(11,aI (K6.wrap ((K6.wrap (1 * 2 ^ (b).toNat)) - 1)))] 52 [iI n,iI 0,iI (K6.wrap ((K6.wrap (1 * 2 ^ (b).toNat)) - 1))] (some 12) rfl (xc_s fun ww hf => cJ n 0 (K6.wrap ((K6.wrap (1 * 2 ^ (b).toNat)) - 1)) ww ) ?_
 intro _
 refine bZ [4] [(4,aB (bx n 0 (K6.wrap ((K6.wrap (1 * 2 ^ (b).toNat)) - 1))))] <| kR ?_
 exact ⟨[.bool (bx n 0 (K6.wrap ((K6.wrap (1 * 2 ^ (b).toNat)) - 1)))],by kernel_rfl,fun w' hb hf => ⟨ret_bool (show (bx n 0 (K6.wrap ((K6.wrap (1 * 2 ^ (b).toNat)) - 1)) : Bool) = aw n b from by first | exact (wordNo n hwb).symm | exact wordG n hwb | exact wordU n hwb),hb⟩⟩
 have h1i := inB_ff.1 (show bx b 1 62 = false from by simpa using h1)
 have hwb := h1
 refine bZ [4] [(4,aB false)] <| kR ?_
 exact ⟨[.bool false],by kernel_rfl,fun w' hb hf => ⟨ret_bool (show (false : Bool) = aw n b from by first | exact (wordNo n hwb).symm | exact wordG n hwb | exact wordU n hwb),hb⟩⟩
theorem pw_fd (m : Int) : Int.fdiv m (2 ^ (8 : Int).toNat) = m / 256 := by
 rw [Int.fdiv_eq_ediv_of_nonneg m (by decide)]; rfl
theorem pw_td {m : Int} (h : 0 ≤ m ∧ m ≤ 4611686018427387903) : Int.tdiv m 256 = m / 256 := Int.tdiv_eq_ediv_of_nonneg h.1
theorem pw_tq {m : Int} (h : 0 ≤ m ∧ m ≤ 4611686018427387903) : 0 ≤ Int.tdiv m 256 ∧ Int.tdiv m 256 ≤ 4611686018427387903 := by rw [pw_td h]; omega
theorem pw_b {m : Int} (h : 0 ≤ m ∧ m ≤ 4611686018427387903) : IntKind.u8.wrap (Int.tmod m 256) = m % 256 := by
 rw [Int.tmod_eq_emod_of_nonneg h.1]; show m % 256 % 256 = _; omega
end Go.Proofs.Ytfidgfddgmppdaa
