/- Contracts that this law needs, part 4. -/
import Derived.Test.YtebgmdiejgcoiaaGreatZ3
namespace Go.Proofs.YtebgmdiejgcoiaaGreat
open Go.RowKit
set_option linter.unusedVariables false
set_option linter.unusedSimpArgs false
set_option maxRecDepth 100000
set_option maxHeartbeats 2000000

theorem l19Segment_c (g : Nat) (J : List Int) (A : Option Addr) (cap : Nat) (x : Con) (xV : Value) (w : World) (B : Nat) (hB : B ≤ w.heap.size) (hc : (curF B g 137 (.slice A J.length cap) J.length).p w) (hl : Sl w (.slice A J.length cap) 1 (J.map bR)) (hap : ¬ (slF (.slice A J.length cap) 1 (J.map bR)).blk g) (hn : J.length ≤ 1048576)  : Calls Tryz.prog 109 #[.pointer (some ⟨g, 0, none⟩), .agg (conL x xV).toArray] w fun e w' => ∃ y : {y : Seg // y.body.size ≤ 4096}, e = .returned (.agg (segL y.1).toArray) ∧ (curF B g 137 (.slice A J.length cap) J.length).p w' ∧ Chgd (fun b => b = g) w w' := by
 have hq_code := Sl.capLe hl
 have hBw : B ≤ (cutW w B).heap.size := Nat.le_of_eq (cutW_size hB).symm
 have hlo : ∀ (ww : World) (b : Nat),(curF B g 137 (.slice A J.length cap) J.length).p ww → (curF B g 137 (.slice A J.length cap) J.length).blk b → (cutW w B).heap.size ≤ b := fun ww b h hb => Nat.le_trans (cutW_le w B) (cur_lo h hb)
 refine x_callsM (args := [.pointer (some ⟨g,0,none⟩),.agg (conL x xV).toArray]) (fn := Tryz.f109) [curF B g 137 (.slice A J.length cap) J.length,slF (.slice A J.length cap) 1 (J.map bR),frF w (fun b => b = g)] B Tryz.func109 rfl Tryz.ntmps109 rfl hB (by simp only [List.mem_cons,List.not_mem_nil,or_false,forall_eq_or_imp,forall_eq]; exact ⟨hc,hl,frF_start w _⟩) (apart_cur hap rfl) ?_
 refine kQ ?_
 refine kEF [0,3,4] ⟨[(0,.v (.pointer (some ⟨g,0,none⟩))),(3,.p 0 0),(4,.p 1 0)],[⟨44,conL x xV⟩,⟨50,segZ⟩],[],[curF B g 137 (.slice A J.length cap) J.length,slF (.slice A J.length cap) 1 (J.map bR),frF w (fun b => b = g)]⟩ ?_
 refine kQ ?_
 refine kWD 3 [0,3,4,10,12] [(10,.v (.pointer (some ⟨g,0,none⟩))),(12,.v (.agg (rcvL x.r xV).toArray))] 139 [.pointer (some ⟨g,0,none⟩),.agg (rcvL x.r xV).toArray] (some 13) 0 rfl rfl hlo (l18Stream_c_K hBw hap) ?_
 rintro ⟨y1,hy1⟩
 refine kED [0,3,4,5,6,7] [(5,.v (.int .i64 y1.1)),(6,.v (.string y1.2.1)),(7,.v (.bool y1.2.2))] ?_
 refine kS ?_
 refine xw_joinF (α := {zz : Int // (fun (sq : Int) => True) zz}) (fun zz => (fun (sq : Int) => (⟨[(0,.v (.pointer (some ⟨g,0,none⟩))),(3,.p 0 0),(4,.p 1 0),(5,.v (.int .i64 sq)),(6,.v (.string y1.2.1)),(7,.v (.bool y1.2.2))],[⟨44,conL x xV⟩,⟨50,segZ⟩],[],[curF B g 137 (.slice A J.length cap) J.length,slF (.slice A J.length cap) 1 (J.map bR),frF w (fun b => b = g)]⟩ : St)) zz.1) ?_ ?_
 refine kQ ?_
 refine kWD 1 [0,3,4,5,6,7,17] [(17,.v (.pointer (some ⟨g,0,none⟩)))] 110 [.pointer (some ⟨g,0,none⟩),.int .i64 2] (some 18) 0 rfl rfl hlo (l1Once_c_K hBw hap) ?_
 rintro ⟨y2,hy2⟩
 refine kED [0,3,4,5,6,7,18] [] ?_
 refine kC (y2) (fun h3 => ?_) (fun h3 => ?_)
 refine kG ?_
 refine kED [0,3,4,5,6,7] [(5,.v (.int .i64 x.r.next))] ?_
 exact ⟨⟨(x.r.next),⟨⟩⟩,kF 2 0 [0,3,4,5,6,7]⟩
 refine kK ?_
 exact ⟨⟨(y1.1),⟨⟩⟩,kF 2 0 [0,3,4,5,6,7]⟩
 rintro ⟨sq,-⟩
 try dsimp only
 refine kS ?_
 refine xe_region0 [] (by kernel_rfl) (fun ρ σ => ?_)
 refine xe_cut (α := {zz : Int × Nat × Int // (fun (y755 : Int) (g905 : Nat) (y956 : Int) => 0 ≤ y755 ∧ (0 < (IntKind.i64.wrap ((flown x.s) + 1)) → y755 < (IntKind.i64.wrap ((flown x.s) + 1)))) zz.1 zz.2.1 zz.2.2}) (fun zz => (fun (y755 : Int) (g905 : Nat) (y956 : Int) => (⟨[(0,.v (.pointer (some ⟨g,0,none⟩))),(3,.p 0 0),(4,.p 1 0),(7,.v (.bool y1.2.2)),(8,.p 2 0)],[⟨44,conL x xV⟩,⟨50,segZ⟩,⟨50,[.int .i64 x.t.port,.int .i64 x.t.my,.int .i64 sq,.int .i64 (sA x.s.una y755),.int .i64 16,.int .i64 y956,.int .i64 0,.int .i64 (-1),.bool false,.bool false,.int .i64 0,.int .i64 0,.string y1.2.1]⟩],[],[curF B g 137 (.slice A J.length cap) J.length,slF (.slice A J.length cap) 1 (J.map bR),frF w (fun b => b = g),rowF (cutW w B).heap.size 3 1 (.slice (some ⟨g905,0,none⟩) 5 5) (([0,1,8,64,65535] : List Int).map intRow)]⟩ : St)) zz.1.1 zz.1.2.1 zz.1.2.2) 0 (listB 25 33554431) ?_ (fun hD7 => ?_)
 rintro ⟨⟨y755,g905,y956⟩,hy755⟩
 dsimp only
 try dsimp only at hy755
 obtain ⟨hy7550,hy7551⟩ := hy755
 refine kZ ?_
 refine kS ?_
 refine xw_joinF (α := {zz : Seg // (fun (sg : Seg) => sg.body.size ≤ 4096) zz}) (fun zz => (fun (sg : Seg) => (⟨[(0,.v (.pointer (some ⟨g,0,none⟩))),(3,.p 0 0),(4,.p 1 0),(8,.p 2 0)],[⟨44,conL x xV⟩,⟨50,segZ⟩,⟨50,segL sg⟩],[],[curF B g 137 (.slice A J.length cap) J.length,slF (.slice A J.length cap) 1 (J.map bR),frF w (fun b => b = g),rowF (cutW w B).heap.size 3 1 (.slice (some ⟨g905,0,none⟩) 5 5) (([0,1,8,64,65535] : List Int).map intRow)]⟩ : St)) zz.1) ?_ ?_
 refine kQ ?_
 refine kED [0,3,4,8,45] [(45,.v (.bool y1.2.2))] ?_
 refine kC (y1.2.2) (fun h1258 => ?_) (fun h1258 => ?_)
 refine kG ?_
 refine kEU [0,3,4,8] [] 2 ⟨50,[.int .i64 x.t.port,.int .i64 x.t.my,.int .i64 sq,.int .i64 (sA x.s.una y755),.int .i64 17,.int .i64 y956,.int .i64 0,.int .i64 (-1),.bool false,.bool false,.int .i64 0,.int .i64 0,.string y1.2.1]⟩ ?_
 exact ⟨⟨(⟨x.t.port,x.t.my,sq,sA x.s.una y755,17,y956,⟨0,(-1),false,false,0,0⟩,y1.2.1⟩),(by first | assumption | (dsimp only; assumption) | exact Nat.zero_le _)⟩,kF 3 0 [0,3,4,8]⟩
 refine kK ?_
 exact ⟨⟨(⟨x.t.port,x.t.my,sq,sA x.s.una y755,16,y956,⟨0,(-1),false,false,0,0⟩,y1.2.1⟩),(by first | assumption | (dsimp only; assumption) | exact Nat.zero_le _)⟩,kF 3 0 [0,3,4,8]⟩
 rintro ⟨sg,hsg⟩
 try dsimp only
 try dsimp only at hsg
 refine kS ?_
 refine xw_joinF (α := {zz : Seg // (fun (sh : Seg) => sh.body.size ≤ 4096) zz}) (fun zz => (fun (sh : Seg) => (⟨[(4,.p 1 0),(8,.p 2 0)],[⟨44,conL x xV⟩,⟨50,segZ⟩,⟨50,segL sh⟩],[],[curF B g 137 (.slice A J.length cap) J.length,slF (.slice A J.length cap) 1 (J.map bR),frF w (fun b => b = g),rowF (cutW w B).heap.size 3 1 (.slice (some ⟨g905,0,none⟩) 5 5) (([0,1,8,64,65535] : List Int).map intRow)]⟩ : St)) zz.1) ?_ ?_
 refine kQ ?_
 refine kWD 1 [0,3,4,8,50] [(50,.v (.pointer (some ⟨g,0,none⟩)))] 133 [.pointer (some ⟨g,0,none⟩),.int .i64 10] (some 51) 0 rfl rfl hlo (l1Below_c_K hBw hap) ?_
 rintro ⟨y1259,hy1259⟩
 obtain ⟨hy12590,hy12591⟩ := hy1259
 refine kED [0,3,4,8,51] [] ?_
 refine xw_block ?_
 refine kQ ?_
 refine kED [0,3,4,8,51,52] [(52,.v (.bool (y1259 == 0)))] ?_
 refine kC (y1259 == 0) (fun h1260 => ?_) (fun h1260 => ?_)
 have h1260p := eqT h1260
 refine kG ?_
 refine kWD 1 [4,8,54] [(54,.v (.pointer (some ⟨g,0,none⟩)))] 140 [.pointer (some ⟨g,0,none⟩)] (some 55) 0 rfl rfl hlo (l9Flags_c_K hBw hap) ?_
 rintro ⟨y1261,hy1261⟩
 refine kEU [4,8] [] 2 ⟨50,segL { sg with flags := y1261 }⟩ ?_
 exact ⟨⟨({ sg with flags := y1261 }),(by first | assumption | (dsimp only; assumption) | exact Nat.zero_le _)⟩,kF 3 0 [4,8]⟩
 have h1260p := eqF h1260
 refine kQ ?_
 refine kED [0,3,4,8,51,57] [(57,.v (.bool (y1259 == 1)))] ?_
 refine kC (y1259 == 1) (fun h1262 => ?_) (fun h1262 => ?_)
 have h1262p := eqT h1262
 refine kG ?_
 refine kWD 4 [4,8,59,62] [(59,.v (.pointer (some ⟨g,0,none⟩))),(62,.v (.int .i64 x.s.una))] 141 [.pointer (some ⟨g,0,none⟩),.int .i64 x.s.una] (some 63) 0 rfl rfl hlo (l4Near_c_K hBw hap) ?_
 rintro ⟨y1263,hy1263⟩
 refine kEU [4,8] [] 2 ⟨50,segL { sg with ack := y1263 }⟩ ?_
 exact ⟨⟨({ sg with ack := y1263 }),(by first | assumption | (dsimp only; assumption) | exact Nat.zero_le _)⟩,kF 3 0 [4,8]⟩
 have h1262p := eqF h1262
 refine kQ ?_
 refine kED [0,3,4,8,51,65] [(65,.v (.bool (y1259 == 2)))] ?_
 refine kC (y1259 == 2) (fun h1264 => ?_) (fun h1264 => ?_)
 have h1264p := eqT h1264
 refine kG ?_
 refine kWD 4 [4,8,67,70] [(67,.v (.pointer (some ⟨g,0,none⟩))),(70,.v (.int .i64 x.r.next))] 141 [.pointer (some ⟨g,0,none⟩),.int .i64 x.r.next] (some 71) 0 rfl rfl hlo (l4Near_c_K hBw hap) ?_
 rintro ⟨y1265,hy1265⟩
 refine kEF [4,8] ⟨[(4,.p 1 0),(8,.p 2 0)],[⟨44,conL x xV⟩,⟨50,segZ⟩,⟨50,segL { sg with seq := y1265 }⟩],[],[curF B g 137 (.slice A J.length cap) J.length,slF (.slice A J.length cap) 1 (J.map bR),frF w (fun b => b = g),rowF (cutW w B).heap.size 3 1 (.slice (some ⟨g905,0,none⟩) 5 5) (([0,1,8,64,65535] : List Int).map intRow)]⟩ ?_
 exact ⟨⟨({ sg with seq := y1265 }),(by first | assumption | (dsimp only; assumption) | exact Nat.zero_le _)⟩,kF 3 0 [4,8]⟩
 have h1264p := eqF h1264
 refine kQ ?_
 refine kED [4,8,73] [(73,.v (.bool (y1259 == 3)))] ?_
 refine kC (y1259 == 3) (fun h1266 => ?_) (fun h1266 => ?_)
 have h1266p := eqT h1266
 refine kG ?_
 refine kEF [4,8] ⟨[(4,.p 1 0),(8,.p 2 0)],[⟨44,conL x xV⟩,⟨50,segZ⟩,⟨50,segL { sg with body := (⟨#[]⟩ : ByteArray) }⟩],[],[curF B g 137 (.slice A J.length cap) J.length,slF (.slice A J.length cap) 1 (J.map bR),frF w (fun b => b = g),rowF (cutW w B).heap.size 3 1 (.slice (some ⟨g905,0,none⟩) 5 5) (([0,1,8,64,65535] : List Int).map intRow)]⟩ ?_
 exact ⟨⟨({ sg with body := (⟨#[]⟩ : ByteArray) }),(by first | assumption | (dsimp only; assumption) | exact Nat.zero_le _)⟩,kF 3 0 [4,8]⟩
 have h1266p := eqF h1266
 refine kK ?_
 exact ⟨⟨(sg),(by first | assumption | (dsimp only; assumption) | exact Nat.zero_le _)⟩,kF 3 0 [4,8]⟩
 rintro ⟨sh,hsh⟩
 try dsimp only
 try dsimp only at hsh
 refine kQ ?_
 refine kCD 2 [4,8,77] [(77,.v (.int .i64 sh.seq))] 122 [.int .i64 sh.seq] (some 78) rfl (xc_s fun ww hf => sRest_c sh.seq ww ) ?_
 intro _
 refine kEU [4,8] [] 2 ⟨50,segL { sh with seq := sh.seq % 4294967296 }⟩ ?_
 refine kQ ?_
 refine kCD 2 [4,8,81] [(81,.v (.int .i64 sh.ack))] 122 [.int .i64 sh.ack] (some 82) rfl (xc_s fun ww hf => sRest_c sh.ack ww ) ?_
 intro _
 refine kEU [4,8] [] 2 ⟨50,segL { sh with seq := sh.seq % 4294967296,ack := sh.ack % 4294967296 }⟩ ?_
 refine kQ ?_
 refine kEU [4] [(4,.p 1 0)] 1 ⟨50,segL { sh with seq := sh.seq % 4294967296,ack := sh.ack % 4294967296 }⟩ ?_
 refine kR ?_
 exact ⟨[.agg (segL { sh with seq := sh.seq % 4294967296,ack := sh.ack % 4294967296 }).toArray],by kernel_rfl,fun w' hb hf => ⟨⟨{ sh with seq := sh.seq % 4294967296,ack := sh.ack % 4294967296 },(by first | assumption | (dsimp only; assumption) | exact Nat.zero_le _)⟩,rfl,hf (curF B g 137 (.slice A J.length cap) J.length) (by simp),frF_chgd (hf (frF w (fun b => b = g)) (by simp)) hb rfl rfl rfl⟩⟩
 refine xe_cut (α := {zz : Int × Nat × Int // (fun (y755 : Int) (g905 : Nat) (y956 : Int) => 0 ≤ y755 ∧ (0 < (IntKind.i64.wrap ((flown x.s) + 1)) → y755 < (IntKind.i64.wrap ((flown x.s) + 1)))) zz.1 zz.2.1 zz.2.2}) (fun zz => (fun (y755 : Int) (g905 : Nat) (y956 : Int) => (⟨[(0,.v (.pointer (some ⟨g,0,none⟩))),(3,.p 0 0),(4,.p 1 0),(7,.v (.bool y1.2.2)),(8,.p 2 0),(44,.v (.agg #[.int .i64 x.t.port,.int .i64 x.t.my,.int .i64 sq,.int .i64 (sA x.s.una y755),.int .i64 16,.int .i64 y956,.int .i64 0,.int .i64 (-1),.bool false,.bool false,.int .i64 0,.int .i64 0,.string y1.2.1]))],[⟨44,conL x xV⟩,⟨50,segZ⟩,⟨50,segZ⟩],[],[curF B g 137 (.slice A J.length cap) J.length,slF (.slice A J.length cap) 1 (J.map bR),frF w (fun b => b = g),rowF (cutW w B).heap.size 3 1 (.slice (some ⟨g905,0,none⟩) 5 5) (([0,1,8,64,65535] : List Int).map intRow)]⟩ : St)) zz.1.1 zz.1.2.1 zz.1.2.2) 1 (listB 25 16777215) ?_ (fun hD6 => ?_)
 rintro ⟨⟨y755,g905,y956⟩,hy755⟩
 dsimp only
 try dsimp only at hy755
 obtain ⟨hy7550,hy7551⟩ := hy755
 refine kA [24] ?_
 refine kSS 24 2 0 [.int .i64 x.t.port,.int .i64 x.t.my,.int .i64 sq,.int .i64 (sA x.s.una y755),.int .i64 16,.int .i64 y956,.int .i64 0,.int .i64 (-1),.bool false,.bool false,.int .i64 0,.int .i64 0,.string y1.2.1] rfl ?_
 exact xe_wkL (kF 3 0 [0,3,4,7,8]) (by kernel_rfl) (hD7 ⟨(y755,g905,y956),⟨hy7550,hy7551⟩⟩)
 refine xe_cut (α := {zz : Int × Nat × Int // (fun (y755 : Int) (g905 : Nat) (y956 : Int) => 0 ≤ y755 ∧ (0 < (IntKind.i64.wrap ((flown x.s) + 1)) → y755 < (IntKind.i64.wrap ((flown x.s) + 1)))) zz.1 zz.2.1 zz.2.2}) (fun zz => (fun (y755 : Int) (g905 : Nat) (y956 : Int) => (⟨[(0,.v (.pointer (some ⟨g,0,none⟩))),(3,.p 0 0),(4,.p 1 0),(7,.v (.bool y1.2.2)),(24,.v (.int .i64 x.t.port)),(27,.v (.int .i64 x.t.my)),(28,.v (.int .i64 sq)),(38,.v (.int .i64 (sA x.s.una y755))),(41,.v (.int .i64 y956)),(42,.v (.agg #[.int .i64 0,.int .i64 (-1),.bool false,.bool false,.int .i64 0,.int .i64 0])),(43,.v (.string y1.2.1))],[⟨44,conL x xV⟩,⟨50,segZ⟩],[],[curF B g 137 (.slice A J.length cap) J.length,slF (.slice A J.length cap) 1 (J.map bR),frF w (fun b => b = g),rowF (cutW w B).heap.size 3 1 (.slice (some ⟨g905,0,none⟩) 5 5) (([0,1,8,64,65535] : List Int).map intRow)]⟩ : St)) zz.1.1 zz.1.2.1 zz.1.2.2) 3 (listB 25 4194303) ?_ (fun hD5 => ?_)
 rintro ⟨⟨y755,g905,y956⟩,hy755⟩
 dsimp only
 try dsimp only at hy755
 obtain ⟨hy7550,hy7551⟩ := hy755
 refine kX 22 (.agg #[.int .i64 x.t.port,.int .i64 x.t.my,.int .i64 sq,.int .i64 (sA x.s.una y755),.int .i64 16,.int .i64 y956,.int .i64 0,.int .i64 (-1),.bool false,.bool false,.int .i64 0,.int .i64 0,.string y1.2.1]) rfl (fun _ _ ww hA => act_build [(0,.int .i64 x.t.port),(1,.int .i64 x.t.my),(2,.int .i64 sq),(3,.int .i64 (sA x.s.una y755)),(4,.int .i64 16),(5,.int .i64 y956),(6,.agg #[.int .i64 0,.int .i64 (-1),.bool false,.bool false,.int .i64 0,.int .i64 0]),(7,.string y1.2.1)] hA rfl (by kernel_rfl) (by kernel_rfl) ww) ?_
 refine kA [23] ?_
 refine xs_box 23 ⟨50,segZ⟩ _ rfl (by kernel_rfl) (by kernel_rfl) (by kernel_rfl) (by kernel_rfl) rfl ?_
 exact xe_wkL (kF 3 0 [0,3,4,7,8,44]) (by kernel_rfl) (hD6 ⟨(y755,g905,y956),⟨hy7550,hy7551⟩⟩)
 refine xe_cut (α := {zz : Int × Nat × Int // (fun (y755 : Int) (g905 : Nat) (y956 : Int) => 0 ≤ y755 ∧ (0 < (IntKind.i64.wrap ((flown x.s) + 1)) → y755 < (IntKind.i64.wrap ((flown x.s) + 1)))) zz.1 zz.2.1 zz.2.2}) (fun zz => (fun (y755 : Int) (g905 : Nat) (y956 : Int) => (⟨[(0,.v (.pointer (some ⟨g,0,none⟩))),(3,.p 0 0),(4,.p 1 0),(7,.v (.bool y1.2.2)),(8,.p 2 0),(24,.v (.int .i64 x.t.port)),(27,.v (.int .i64 x.t.my)),(28,.v (.int .i64 sq)),(38,.v (.int .i64 (sA x.s.una y755))),(41,.v (.int .i64 y956)),(42,.v (.agg #[.int .i64 0,.int .i64 (-1),.bool false,.bool false,.int .i64 0,.int .i64 0])),(43,.v (.string y1.2.1))],[⟨44,conL x xV⟩,⟨50,segZ⟩,⟨50,segZ⟩],[],[curF B g 137 (.slice A J.length cap) J.length,slF (.slice A J.length cap) 1 (J.map bR),frF w (fun b => b = g),rowF (cutW w B).heap.size 3 1 (.slice (some ⟨g905,0,none⟩) 5 5) (([0,1,8,64,65535] : List Int).map intRow)]⟩ : St)) zz.1.1 zz.1.2.1 zz.1.2.2) 2 (listB 25 12582911) ?_ (fun hD9 => ?_)
 rintro ⟨⟨y755,g905,y956⟩,hy755⟩
 dsimp only
 try dsimp only at hy755
 obtain ⟨hy7550,hy7551⟩ := hy755
 refine kX 22 (.agg #[.int .i64 x.t.port,.int .i64 x.t.my,.int .i64 sq,.int .i64 (sA x.s.una y755),.int .i64 16,.int .i64 y956,.int .i64 0,.int .i64 (-1),.bool false,.bool false,.int .i64 0,.int .i64 0,.string y1.2.1]) rfl (fun _ _ ww hA => act_build [(0,.int .i64 x.t.port),(1,.int .i64 x.t.my),(2,.int .i64 sq),(3,.int .i64 (sA x.s.una y755)),(4,.int .i64 16),(5,.int .i64 y956),(6,.agg #[.int .i64 0,.int .i64 (-1),.bool false,.bool false,.int .i64 0,.int .i64 0]),(7,.string y1.2.1)] hA rfl (by kernel_rfl) (by kernel_rfl) ww) ?_
 refine kA [24] ?_
 refine kSS 24 2 0 [.int .i64 x.t.port,.int .i64 x.t.my,.int .i64 sq,.int .i64 (sA x.s.una y755),.int .i64 16,.int .i64 y956,.int .i64 0,.int .i64 (-1),.bool false,.bool false,.int .i64 0,.int .i64 0,.string y1.2.1] rfl ?_
 exact xe_wkL (kF 3 0 [0,3,4,7,8]) (by kernel_rfl) (hD7 ⟨(y755,g905,y956),⟨hy7550,hy7551⟩⟩)
 refine xe_cut (α := {zz : Int × Nat × Int // (fun (y755 : Int) (g905 : Nat) (y956 : Int) => 0 ≤ y755 ∧ (0 < (IntKind.i64.wrap ((flown x.s) + 1)) → y755 < (IntKind.i64.wrap ((flown x.s) + 1)))) zz.1 zz.2.1 zz.2.2}) (fun zz => (fun (y755 : Int) (g905 : Nat) (y956 : Int) => (⟨[(0,.v (.pointer (some ⟨g,0,none⟩))),(3,.p 0 0),(4,.p 1 0),(7,.v (.bool y1.2.2)),(8,.p 2 0),(24,.v (.int .i64 x.t.port)),(27,.v (.int .i64 x.t.my)),(28,.v (.int .i64 sq)),(38,.v (.int .i64 (sA x.s.una y755))),(41,.v (.int .i64 y956)),(43,.v (.string y1.2.1))],[⟨44,conL x xV⟩,⟨50,segZ⟩,⟨50,segZ⟩],[],[curF B g 137 (.slice A J.length cap) J.length,slF (.slice A J.length cap) 1 (J.map bR),frF w (fun b => b = g),rowF (cutW w B).heap.size 3 1 (.slice (some ⟨g905,0,none⟩) 5 5) (([0,1,8,64,65535] : List Int).map intRow)]⟩ : St)) zz.1.1 zz.1.2.1 zz.1.2.2) 3 (listB 25 11534335) ?_ (fun hD8 => ?_)
 rintro ⟨⟨y755,g905,y956⟩,hy755⟩
 dsimp only
 try dsimp only at hy755
 obtain ⟨hy7550,hy7551⟩ := hy755
 refine kA [20] ?_
 refine kSC 20 88 [] (some 42) rfl (xc_b fun ww hf => sNoOptions_c  ww ) ?_
 intro _
 exact xe_wkL (kF 3 0 [0,3,4,7,8,24,27,28,38,41,42,43]) (by kernel_rfl) (hD9 ⟨(y755,g905,y956),⟨hy7550,hy7551⟩⟩)
 refine xe_cut (α := {zz : Int × Nat × Int // (fun (y755 : Int) (g905 : Nat) (y956 : Int) => 0 ≤ y755 ∧ (0 < (IntKind.i64.wrap ((flown x.s) + 1)) → y755 < (IntKind.i64.wrap ((flown x.s) + 1)))) zz.1 zz.2.1 zz.2.2}) (fun zz => (fun (y755 : Int) (g905 : Nat) (y956 : Int) => (⟨[(0,.v (.pointer (some ⟨g,0,none⟩))),(3,.p 0 0),(4,.p 1 0),(7,.v (.bool y1.2.2)),(24,.v (.int .i64 x.t.port)),(27,.v (.int .i64 x.t.my)),(28,.v (.int .i64 sq)),(38,.v (.int .i64 (sA x.s.una y755))),(41,.v (.int .i64 y956)),(43,.v (.string y1.2.1))],[⟨44,conL x xV⟩,⟨50,segZ⟩],[],[curF B g 137 (.slice A J.length cap) J.length,slF (.slice A J.length cap) 1 (J.map bR),frF w (fun b => b = g),rowF (cutW w B).heap.size 3 1 (.slice (some ⟨g905,0,none⟩) 5 5) (([0,1,8,64,65535] : List Int).map intRow)]⟩ : St)) zz.1.1 zz.1.2.1 zz.1.2.2) 4 (listB 25 3145727) ?_ (fun hD4 => ?_)
 rintro ⟨⟨y755,g905,y956⟩,hy755⟩
 dsimp only
 try dsimp only at hy755
 obtain ⟨hy7550,hy7551⟩ := hy755
 refine kA [20,23] ⟨?_,?_⟩
 refine kSC 20 88 [] (some 42) rfl (xc_b fun ww hf => sNoOptions_c  ww ) ?_
 intro _
 exact xe_wkL (kF 2 0 [0,3,4,7,24,27,28,38,41,42,43]) (by kernel_rfl) (hD5 ⟨(y755,g905,y956),⟨hy7550,hy7551⟩⟩)
 refine xs_box 23 ⟨50,segZ⟩ _ rfl (by kernel_rfl) (by kernel_rfl) (by kernel_rfl) (by kernel_rfl) rfl ?_
 exact xe_wkL (kF 3 0 [0,3,4,7,8,24,27,28,38,41,43]) (by kernel_rfl) (hD8 ⟨(y755,g905,y956),⟨hy7550,hy7551⟩⟩)
 refine xe_cut (α := {zz : Int × Nat // (fun (y755 : Int) (g905 : Nat) => 0 ≤ y755 ∧ (0 < (IntKind.i64.wrap ((flown x.s) + 1)) → y755 < (IntKind.i64.wrap ((flown x.s) + 1)))) zz.1 zz.2}) (fun zz => (fun (y755 : Int) (g905 : Nat) => (⟨[(0,.v (.pointer (some ⟨g,0,none⟩))),(3,.p 0 0),(4,.p 1 0),(7,.v (.bool y1.2.2)),(8,.p 2 0),(24,.v (.int .i64 x.t.port)),(27,.v (.int .i64 x.t.my)),(28,.v (.int .i64 sq)),(38,.v (.int .i64 (sA x.s.una y755))),(39,.v (.pointer (some ⟨g,0,none⟩))),(40,.v (.slice (some ⟨g905,0,none⟩) 5 5)),(43,.v (.string y1.2.1))],[⟨44,conL x xV⟩,⟨50,segZ⟩,⟨50,segZ⟩],[],[curF B g 137 (.slice A J.length cap) J.length,slF (.slice A J.length cap) 1 (J.map bR),frF w (fun b => b = g),rowF (cutW w B).heap.size 3 1 (.slice (some ⟨g905,0,none⟩) 5 5) (([0,1,8,64,65535] : List Int).map intRow)]⟩ : St)) zz.1.1 zz.1.2) 4 (listB 25 11010047) ?_ (fun hD10 => ?_)
 rintro ⟨⟨y755,g905⟩,hy755⟩
 dsimp only
 try dsimp only at hy755
 obtain ⟨hy7550,hy7551⟩ := hy755
 refine kA [19] ?_
 refine xs_know (φ := ¬ (slF (.slice (some ⟨g905,0,none⟩) 5 5) 1 (([0,1,8,64,65535] : List Int).map intRow)).blk g) (fun _ _ _ _ hr => fun hb => hr.2.apart 3 0 (rowF (cutW w B).heap.size 3 1 (.slice (some ⟨g905,0,none⟩) 5 5) (([0,1,8,64,65535] : List Int).map intRow)) (curF B g 137 (.slice A J.length cap) J.length) rfl rfl (by decide) rfl g (rowF_sblk hb) rfl) (fun hk955 => ?_)
 refine kSW 19 136 [.pointer (some ⟨g,0,none⟩),.slice (some ⟨g905,0,none⟩) 5 5] (some 41) 0 rfl rfl hlo (under_t (under_t under_nil)) (l1PickInt_c_K hBw hap (fun ww hw hf => (rowF_sl (hf _ m3))) hk955 (by simp)) ?_
 rintro ⟨y956,hy956⟩
 exact xe_wkL (kF 3 0 [0,3,4,7,8,24,27,28,38,41,43]) (by kernel_rfl) (hD8 ⟨(y755,g905,y956),⟨hy7550,hy7551⟩⟩)
 refine xe_cut (α := {zz : Int × Nat // (fun (y755 : Int) (g905 : Nat) => 0 ≤ y755 ∧ (0 < (IntKind.i64.wrap ((flown x.s) + 1)) → y755 < (IntKind.i64.wrap ((flown x.s) + 1)))) zz.1 zz.2}) (fun zz => (fun (y755 : Int) (g905 : Nat) => (⟨[(0,.v (.pointer (some ⟨g,0,none⟩))),(3,.p 0 0),(4,.p 1 0),(7,.v (.bool y1.2.2)),(24,.v (.int .i64 x.t.port)),(27,.v (.int .i64 x.t.my)),(28,.v (.int .i64 sq)),(38,.v (.int .i64 (sA x.s.una y755))),(39,.v (.pointer (some ⟨g,0,none⟩))),(40,.v (.slice (some ⟨g905,0,none⟩) 5 5)),(43,.v (.string y1.2.1))],[⟨44,conL x xV⟩,⟨50,segZ⟩],[],[curF B g 137 (.slice A J.length cap) J.length,slF (.slice A J.length cap) 1 (J.map bR),frF w (fun b => b = g),rowF (cutW w B).heap.size 3 1 (.slice (some ⟨g905,0,none⟩) 5 5) (([0,1,8,64,65535] : List Int).map intRow)]⟩ : St)) zz.1.1 zz.1.2) 5 (listB 25 2621439) ?_ (fun hD3 => ?_)
 rintro ⟨⟨y755,g905⟩,hy755⟩
 dsimp only
 try dsimp only at hy755
 obtain ⟨hy7550,hy7551⟩ := hy755
 refine kA [19,23] ⟨?_,?_⟩
 refine xs_know (φ := ¬ (slF (.slice (some ⟨g905,0,none⟩) 5 5) 1 (([0,1,8,64,65535] : List Int).map intRow)).blk g) (fun _ _ _ _ hr => fun hb => hr.2.apart 3 0 (rowF (cutW w B).heap.size 3 1 (.slice (some ⟨g905,0,none⟩) 5 5) (([0,1,8,64,65535] : List Int).map intRow)) (curF B g 137 (.slice A J.length cap) J.length) rfl rfl (by decide) rfl g (rowF_sblk hb) rfl) (fun hk955 => ?_)
 refine kSW 19 136 [.pointer (some ⟨g,0,none⟩),.slice (some ⟨g905,0,none⟩) 5 5] (some 41) 0 rfl rfl hlo (under_t (under_t under_nil)) (l1PickInt_c_K hBw hap (fun ww hw hf => (rowF_sl (hf _ m3))) hk955 (by simp)) ?_
 rintro ⟨y956,hy956⟩
 exact xe_wkL (kF 2 0 [0,3,4,7,24,27,28,38,41,43]) (by kernel_rfl) (hD4 ⟨(y755,g905,y956),⟨hy7550,hy7551⟩⟩)
 refine xs_box 23 ⟨50,segZ⟩ _ rfl (by kernel_rfl) (by kernel_rfl) (by kernel_rfl) (by kernel_rfl) rfl ?_
 exact xe_wkL (kF 3 0 [0,3,4,7,8,24,27,28,38,39,40,43]) (by kernel_rfl) (hD10 ⟨(y755,g905),⟨hy7550,hy7551⟩⟩)
 refine xe_cut (α := {zz : Int // (fun (y755 : Int) => 0 ≤ y755 ∧ (0 < (IntKind.i64.wrap ((flown x.s) + 1)) → y755 < (IntKind.i64.wrap ((flown x.s) + 1)))) zz}) (fun zz => (fun (y755 : Int) => (⟨[(0,.v (.pointer (some ⟨g,0,none⟩))),(3,.p 0 0),(4,.p 1 0),(7,.v (.bool y1.2.2)),(8,.p 2 0),(24,.v (.int .i64 x.t.port)),(27,.v (.int .i64 x.t.my)),(28,.v (.int .i64 sq)),(38,.v (.int .i64 (sA x.s.una y755))),(39,.v (.pointer (some ⟨g,0,none⟩))),(43,.v (.string y1.2.1))],[⟨44,conL x xV⟩,⟨50,segZ⟩,⟨50,segZ⟩],[],[curF B g 137 (.slice A J.length cap) J.length,slF (.slice A J.length cap) 1 (J.map bR),frF w (fun b => b = g)]⟩ : St)) zz.1) 5 (listB 25 10747903) ?_ (fun hD11 => ?_)
 rintro ⟨y755,hy755⟩
 try dsimp only
 try dsimp only at hy755
 obtain ⟨hy7550,hy7551⟩ := hy755
 refine kA [18] ?_
 refine kSH 18 rfl (under_t (under_t under_nil)) (hv_build (e := 3) (K := 1) (bytes := 8) [.int .i64 0,.int .i64 1,.int .i64 8,.int .i64 64,.int .i64 65535] rfl (by kernel_rfl) (by kernel_rfl) (by kernel_rfl) (by kernel_rfl) (by kernel_rfl) (rs := ([0,1,8,64,65535] : List Int).map intRow) rfl) ?_
 intro g905
 exact xe_wkL (kPk [1,2,3,0] <| kF 3 0 [0,3,4,7,8,24,27,28,38,39,40,43]) (by kernel_rfl) (hD10 ⟨(y755,g905),⟨hy7550,hy7551⟩⟩)
 refine xe_cutT (α := {zz : Int // (fun (y755 : Int) => 0 ≤ y755 ∧ (0 < (IntKind.i64.wrap ((flown x.s) + 1)) → y755 < (IntKind.i64.wrap ((flown x.s) + 1)))) zz}) (fun zz => (fun (y755 : Int) => [(0,.v (.pointer (some ⟨g,0,none⟩))),(3,.p 0 0),(4,.p 1 0),(7,.v (.bool y1.2.2)),(24,.v (.int .i64 x.t.port)),(27,.v (.int .i64 x.t.my)),(28,.v (.int .i64 sq)),(38,.v (.int .i64 (sA x.s.una y755))),(39,.v (.pointer (some ⟨g,0,none⟩))),(43,.v (.string y1.2.1))]) zz.1) 6 (listB 25 2359295) ?_ (fun hD2 => ?_)
 rintro ⟨y755,hy755⟩
 try dsimp only
 try dsimp only at hy755
 obtain ⟨hy7550,hy7551⟩ := hy755
 refine kA [18,23] ⟨?_,?_⟩
 refine kSH 18 rfl (under_t (under_t under_nil)) (hv_build (e := 3) (K := 1) (bytes := 8) [.int .i64 0,.int .i64 1,.int .i64 8,.int .i64 64,.int .i64 65535] rfl (by kernel_rfl) (by kernel_rfl) (by kernel_rfl) (by kernel_rfl) (by kernel_rfl) (rs := ([0,1,8,64,65535] : List Int).map intRow) rfl) ?_
 intro g905
 exact xe_wkL (kPk [1,2,3,0] <| kF 2 0 [0,3,4,7,24,27,28,38,39,40,43]) (by kernel_rfl) (hD3 ⟨(y755,g905),⟨hy7550,hy7551⟩⟩)
 refine xs_box 23 ⟨50,segZ⟩ _ rfl (by kernel_rfl) (by kernel_rfl) (by kernel_rfl) (by kernel_rfl) rfl ?_
 exact xe_wkL (kF 3 0 [0,3,4,7,8,24,27,28,38,39,43]) (by kernel_rfl) (hD11 ⟨(y755),⟨hy7550,hy7551⟩⟩)
 refine xe_cut (α := {zz : Int × Nat // (fun (y755 : Int) (g905 : Nat) => 0 ≤ y755 ∧ (0 < (IntKind.i64.wrap ((flown x.s) + 1)) → y755 < (IntKind.i64.wrap ((flown x.s) + 1)))) zz.1 zz.2}) (fun zz => (fun (y755 : Int) (g905 : Nat) => (⟨[(0,.v (.pointer (some ⟨g,0,none⟩))),(3,.p 0 0),(4,.p 1 0),(7,.v (.bool y1.2.2)),(8,.p 2 0),(24,.v (.int .i64 x.t.port)),(27,.v (.int .i64 x.t.my)),(28,.v (.int .i64 sq)),(31,.v (.int .i64 x.s.una)),(37,.v (.int .i64 y755)),(39,.v (.pointer (some ⟨g,0,none⟩))),(40,.v (.slice (some ⟨g905,0,none⟩) 5 5)),(43,.v (.string y1.2.1))],[⟨44,conL x xV⟩,⟨50,segZ⟩,⟨50,segZ⟩],[],[curF B g 137 (.slice A J.length cap) J.length,slF (.slice A J.length cap) 1 (J.map bR),frF w (fun b => b = g),rowF (cutW w B).heap.size 3 1 (.slice (some ⟨g905,0,none⟩) 5 5) (([0,1,8,64,65535] : List Int).map intRow)]⟩ : St)) zz.1.1 zz.1.2) 5 (listB 25 10944511) ?_ (fun hD13 => ?_)
 rintro ⟨⟨y755,g905⟩,hy755⟩
 dsimp only
 try dsimp only at hy755
 obtain ⟨hy7550,hy7551⟩ := hy755
 refine kA [16] ?_
 refine kSC 16 120 [.int .i64 x.s.una,.int .i64 y755] (some 38) rfl (xc_s fun ww hf => sSeqAdd_c x.s.una y755 ww ) ?_
 intro _
 exact xe_wkL (kF 3 0 [0,3,4,7,8,24,27,28,38,39,40,43]) (by kernel_rfl) (hD10 ⟨(y755,g905),⟨hy7550,hy7551⟩⟩)
 refine xe_cut (α := {zz : Int × Nat // (fun (y755 : Int) (g905 : Nat) => 0 ≤ y755 ∧ (0 < (IntKind.i64.wrap ((flown x.s) + 1)) → y755 < (IntKind.i64.wrap ((flown x.s) + 1)))) zz.1 zz.2}) (fun zz => (fun (y755 : Int) (g905 : Nat) => (⟨[(0,.v (.pointer (some ⟨g,0,none⟩))),(3,.p 0 0),(4,.p 1 0),(7,.v (.bool y1.2.2)),(24,.v (.int .i64 x.t.port)),(27,.v (.int .i64 x.t.my)),(28,.v (.int .i64 sq)),(31,.v (.int .i64 x.s.una)),(37,.v (.int .i64 y755)),(39,.v (.pointer (some ⟨g,0,none⟩))),(40,.v (.slice (some ⟨g905,0,none⟩) 5 5)),(43,.v (.string y1.2.1))],[⟨44,conL x xV⟩,⟨50,segZ⟩],[],[curF B g 137 (.slice A J.length cap) J.length,slF (.slice A J.length cap) 1 (J.map bR),frF w (fun b => b = g),rowF (cutW w B).heap.size 3 1 (.slice (some ⟨g905,0,none⟩) 5 5) (([0,1,8,64,65535] : List Int).map intRow)]⟩ : St)) zz.1.1 zz.1.2) 6 (listB 25 2555903) ?_ (fun hD12 => ?_)
 rintro ⟨⟨y755,g905⟩,hy755⟩
 dsimp only
 try dsimp only at hy755
 obtain ⟨hy7550,hy7551⟩ := hy755
 refine kA [16,23] ⟨?_,?_⟩
 refine kSC 16 120 [.int .i64 x.s.una,.int .i64 y755] (some 38) rfl (xc_s fun ww hf => sSeqAdd_c x.s.una y755 ww ) ?_
 intro _
 exact xe_wkL (kF 2 0 [0,3,4,7,24,27,28,38,39,40,43]) (by kernel_rfl) (hD3 ⟨(y755,g905),⟨hy7550,hy7551⟩⟩)
 refine xs_box 23 ⟨50,segZ⟩ _ rfl (by kernel_rfl) (by kernel_rfl) (by kernel_rfl) (by kernel_rfl) rfl ?_
 exact xe_wkL (kF 3 0 [0,3,4,7,8,24,27,28,31,37,39,40,43]) (by kernel_rfl) (hD13 ⟨(y755,g905),⟨hy7550,hy7551⟩⟩)
 refine xe_cut (α := {zz : Int // (fun (y755 : Int) => 0 ≤ y755 ∧ (0 < (IntKind.i64.wrap ((flown x.s) + 1)) → y755 < (IntKind.i64.wrap ((flown x.s) + 1)))) zz}) (fun zz => (fun (y755 : Int) => (⟨[(0,.v (.pointer (some ⟨g,0,none⟩))),(3,.p 0 0),(4,.p 1 0),(7,.v (.bool y1.2.2)),(8,.p 2 0),(24,.v (.int .i64 x.t.port)),(27,.v (.int .i64 x.t.my)),(28,.v (.int .i64 sq)),(31,.v (.int .i64 x.s.una)),(37,.v (.int .i64 y755)),(39,.v (.pointer (some ⟨g,0,none⟩))),(43,.v (.string y1.2.1))],[⟨44,conL x xV⟩,⟨50,segZ⟩,⟨50,segZ⟩],[],[curF B g 137 (.slice A J.length cap) J.length,slF (.slice A J.length cap) 1 (J.map bR),frF w (fun b => b = g)]⟩ : St)) zz.1) 6 (listB 25 10682367) ?_ (fun hD14 => ?_)
 rintro ⟨y755,hy755⟩
 try dsimp only
 try dsimp only at hy755
 obtain ⟨hy7550,hy7551⟩ := hy755
 refine kA [16,18] ⟨?_,?_⟩
 refine kSC 16 120 [.int .i64 x.s.una,.int .i64 y755] (some 38) rfl (xc_s fun ww hf => sSeqAdd_c x.s.una y755 ww ) ?_
 intro _
 exact xe_wkL (kF 3 0 [0,3,4,7,8,24,27,28,38,39,43]) (by kernel_rfl) (hD11 ⟨(y755),⟨hy7550,hy7551⟩⟩)
 refine kSH 18 rfl (under_t (under_t under_nil)) (hv_build (e := 3) (K := 1) (bytes := 8) [.int .i64 0,.int .i64 1,.int .i64 8,.int .i64 64,.int .i64 65535] rfl (by kernel_rfl) (by kernel_rfl) (by kernel_rfl) (by kernel_rfl) (by kernel_rfl) (rs := ([0,1,8,64,65535] : List Int).map intRow) rfl) ?_
 intro g905
 exact xe_wkL (kPk [1,2,3,0] <| kF 3 0 [0,3,4,7,8,24,27,28,31,37,39,40,43]) (by kernel_rfl) (hD13 ⟨(y755,g905),⟨hy7550,hy7551⟩⟩)
 refine xe_cutT (α := {zz : Int // (fun (y755 : Int) => 0 ≤ y755 ∧ (0 < (IntKind.i64.wrap ((flown x.s) + 1)) → y755 < (IntKind.i64.wrap ((flown x.s) + 1)))) zz}) (fun zz => (fun (y755 : Int) => [(0,.v (.pointer (some ⟨g,0,none⟩))),(3,.p 0 0),(4,.p 1 0),(7,.v (.bool y1.2.2)),(24,.v (.int .i64 x.t.port)),(27,.v (.int .i64 x.t.my)),(28,.v (.int .i64 sq)),(31,.v (.int .i64 x.s.una)),(37,.v (.int .i64 y755)),(39,.v (.pointer (some ⟨g,0,none⟩))),(43,.v (.string y1.2.1))]) zz.1) 7 (listB 25 2293759) ?_ (fun hD1 => ?_)
 rintro ⟨y755,hy755⟩
 try dsimp only
 try dsimp only at hy755
 obtain ⟨hy7550,hy7551⟩ := hy755
 refine kA [16,18,23] ⟨?_,?_,?_⟩
 refine kSC 16 120 [.int .i64 x.s.una,.int .i64 y755] (some 38) rfl (xc_s fun ww hf => sSeqAdd_c x.s.una y755 ww ) ?_
 intro _
 exact xe_wkL (kF 2 0 [0,3,4,7,24,27,28,38,39,43]) (by kernel_rfl) (hD2 ⟨(y755),⟨hy7550,hy7551⟩⟩)
 refine kSH 18 rfl (under_t (under_t under_nil)) (hv_build (e := 3) (K := 1) (bytes := 8) [.int .i64 0,.int .i64 1,.int .i64 8,.int .i64 64,.int .i64 65535] rfl (by kernel_rfl) (by kernel_rfl) (by kernel_rfl) (by kernel_rfl) (by kernel_rfl) (rs := ([0,1,8,64,65535] : List Int).map intRow) rfl) ?_
 intro g905
 exact xe_wkL (kPk [1,2,3,0] <| kF 2 0 [0,3,4,7,24,27,28,31,37,39,40,43]) (by kernel_rfl) (hD12 ⟨(y755,g905),⟨hy7550,hy7551⟩⟩)
 refine xs_box 23 ⟨50,segZ⟩ _ rfl (by kernel_rfl) (by kernel_rfl) (by kernel_rfl) (by kernel_rfl) rfl ?_
 exact xe_wkL (kF 3 0 [0,3,4,7,8,24,27,28,31,37,39,43]) (by kernel_rfl) (hD14 ⟨(y755),⟨hy7550,hy7551⟩⟩)
 refine xe_cut (α := Nat) (fun zz => (fun (g905 : Nat) => (⟨[(0,.v (.pointer (some ⟨g,0,none⟩))),(3,.p 0 0),(4,.p 1 0),(7,.v (.bool y1.2.2)),(8,.p 2 0),(24,.v (.int .i64 x.t.port)),(27,.v (.int .i64 x.t.my)),(28,.v (.int .i64 sq)),(31,.v (.int .i64 x.s.una)),(32,.v (.pointer (some ⟨g,0,none⟩))),(36,.v (.int .i64 (IntKind.i64.wrap ((flown x.s) + 1)))),(39,.v (.pointer (some ⟨g,0,none⟩))),(40,.v (.slice (some ⟨g905,0,none⟩) 5 5)),(43,.v (.string y1.2.1))],[⟨44,conL x xV⟩,⟨50,segZ⟩,⟨50,segZ⟩],[],[curF B g 137 (.slice A J.length cap) J.length,slF (.slice A J.length cap) 1 (J.map bR),frF w (fun b => b = g),rowF (cutW w B).heap.size 3 1 (.slice (some ⟨g905,0,none⟩) 5 5) (([0,1,8,64,65535] : List Int).map intRow)]⟩ : St)) zz) 6 (listB 25 10911743) ?_ (fun hD16 => ?_)
 intro g905
 try dsimp only
 refine kA [15] ?_
 refine kSW 15 133 [.pointer (some ⟨g,0,none⟩),.int .i64 (IntKind.i64.wrap ((flown x.s) + 1))] (some 37) 0 rfl rfl hlo (under_t (under_t under_nil)) (l1Below_c_K hBw hap) ?_
 rintro ⟨y755,hy755⟩
 obtain ⟨hy7550,hy7551⟩ := hy755
 exact xe_wkL (kF 3 0 [0,3,4,7,8,24,27,28,31,37,39,40,43]) (by kernel_rfl) (hD13 ⟨(y755,g905),⟨hy7550,hy7551⟩⟩)
 refine xe_cut (α := Nat) (fun zz => (fun (g905 : Nat) => (⟨[(0,.v (.pointer (some ⟨g,0,none⟩))),(3,.p 0 0),(4,.p 1 0),(7,.v (.bool y1.2.2)),(24,.v (.int .i64 x.t.port)),(27,.v (.int .i64 x.t.my)),(28,.v (.int .i64 sq)),(31,.v (.int .i64 x.s.una)),(32,.v (.pointer (some ⟨g,0,none⟩))),(36,.v (.int .i64 (IntKind.i64.wrap ((flown x.s) + 1)))),(39,.v (.pointer (some ⟨g,0,none⟩))),(40,.v (.slice (some ⟨g905,0,none⟩) 5 5)),(43,.v (.string y1.2.1))],[⟨44,conL x xV⟩,⟨50,segZ⟩],[],[curF B g 137 (.slice A J.length cap) J.length,slF (.slice A J.length cap) 1 (J.map bR),frF w (fun b => b = g),rowF (cutW w B).heap.size 3 1 (.slice (some ⟨g905,0,none⟩) 5 5) (([0,1,8,64,65535] : List Int).map intRow)]⟩ : St)) zz) 7 (listB 25 2523135) ?_ (fun hD15 => ?_)
 intro g905
 try dsimp only
 refine kA [15,23] ⟨?_,?_⟩
 refine kSW 15 133 [.pointer (some ⟨g,0,none⟩),.int .i64 (IntKind.i64.wrap ((flown x.s) + 1))] (some 37) 0 rfl rfl hlo (under_t (under_t under_nil)) (l1Below_c_K hBw hap) ?_
 rintro ⟨y755,hy755⟩
 obtain ⟨hy7550,hy7551⟩ := hy755
 exact xe_wkL (kF 2 0 [0,3,4,7,24,27,28,31,37,39,40,43]) (by kernel_rfl) (hD12 ⟨(y755,g905),⟨hy7550,hy7551⟩⟩)
 refine xs_box 23 ⟨50,segZ⟩ _ rfl (by kernel_rfl) (by kernel_rfl) (by kernel_rfl) (by kernel_rfl) rfl ?_
 exact xe_wkL (kF 3 0 [0,3,4,7,8,24,27,28,31,32,36,39,40,43]) (by kernel_rfl) (hD16 (g905))
 refine xe_cut (α := Unit) (fun zz => (fun (u_ : Unit) => (⟨[(0,.v (.pointer (some ⟨g,0,none⟩))),(3,.p 0 0),(4,.p 1 0),(7,.v (.bool y1.2.2)),(8,.p 2 0),(24,.v (.int .i64 x.t.port)),(27,.v (.int .i64 x.t.my)),(28,.v (.int .i64 sq)),(31,.v (.int .i64 x.s.una)),(32,.v (.pointer (some ⟨g,0,none⟩))),(36,.v (.int .i64 (IntKind.i64.wrap ((flown x.s) + 1)))),(39,.v (.pointer (some ⟨g,0,none⟩))),(43,.v (.string y1.2.1))],[⟨44,conL x xV⟩,⟨50,segZ⟩,⟨50,segZ⟩],[],[curF B g 137 (.slice A J.length cap) J.length,slF (.slice A J.length cap) 1 (J.map bR),frF w (fun b => b = g)]⟩ : St)) zz) 7 (listB 25 10649599) ?_ (fun hD17 => ?_)
 intro u_
 try dsimp only
 refine kA [15,18] ⟨?_,?_⟩
 refine kSW 15 133 [.pointer (some ⟨g,0,none⟩),.int .i64 (IntKind.i64.wrap ((flown x.s) + 1))] (some 37) 0 rfl rfl hlo (under_t (under_t under_nil)) (l1Below_c_K hBw hap) ?_
 rintro ⟨y755,hy755⟩
 obtain ⟨hy7550,hy7551⟩ := hy755
 exact xe_wkL (kF 3 0 [0,3,4,7,8,24,27,28,31,37,39,43]) (by kernel_rfl) (hD14 ⟨(y755),⟨hy7550,hy7551⟩⟩)
 refine kSH 18 rfl (under_t (under_t under_nil)) (hv_build (e := 3) (K := 1) (bytes := 8) [.int .i64 0,.int .i64 1,.int .i64 8,.int .i64 64,.int .i64 65535] rfl (by kernel_rfl) (by kernel_rfl) (by kernel_rfl) (by kernel_rfl) (by kernel_rfl) (rs := ([0,1,8,64,65535] : List Int).map intRow) rfl) ?_
 intro g905
 exact xe_wkL (kPk [1,2,3,0] <| kF 3 0 [0,3,4,7,8,24,27,28,31,32,36,39,40,43]) (by kernel_rfl) (hD16 (g905))
 refine xe_cutT (α := Unit) (fun zz => (fun (u_ : Unit) => [(0,.v (.pointer (some ⟨g,0,none⟩))),(3,.p 0 0),(4,.p 1 0),(7,.v (.bool y1.2.2)),(24,.v (.int .i64 x.t.port)),(27,.v (.int .i64 x.t.my)),(28,.v (.int .i64 sq)),(31,.v (.int .i64 x.s.una)),(32,.v (.pointer (some ⟨g,0,none⟩))),(35,.v (.int .i64 (flown x.s))),(39,.v (.pointer (some ⟨g,0,none⟩))),(43,.v (.string y1.2.1))]) zz) 9 (listB 25 2244607) ?_ (fun hD0 => ?_)
 intro u_
 try dsimp only
 refine kTD [14] [36,0,3,4,7,24,27,28,31,32,39,43] 8 [(36,.v (.int .i64 (IntKind.i64.wrap ((flown x.s) + 1))))] ?_
 refine kA [15,18,23] ⟨?_,?_,?_⟩
 refine kSW 15 133 [.pointer (some ⟨g,0,none⟩),.int .i64 (IntKind.i64.wrap ((flown x.s) + 1))] (some 37) 0 rfl rfl hlo (under_t (under_t under_nil)) (l1Below_c_K hBw hap) ?_
 rintro ⟨y755,hy755⟩
 obtain ⟨hy7550,hy7551⟩ := hy755
 exact xe_wkL (kF 2 0 [0,3,4,7,24,27,28,31,37,39,43]) (by kernel_rfl) (hD1 ⟨(y755),⟨hy7550,hy7551⟩⟩)
 refine kSH 18 rfl (under_t (under_t under_nil)) (hv_build (e := 3) (K := 1) (bytes := 8) [.int .i64 0,.int .i64 1,.int .i64 8,.int .i64 64,.int .i64 65535] rfl (by kernel_rfl) (by kernel_rfl) (by kernel_rfl) (by kernel_rfl) (by kernel_rfl) (rs := ([0,1,8,64,65535] : List Int).map intRow) rfl) ?_
 intro g905
 exact xe_wkL (kPk [1,2,3,0] <| kF 2 0 [0,3,4,7,24,27,28,31,32,36,39,40,43]) (by kernel_rfl) (hD15 (g905))
 refine xs_box 23 ⟨50,segZ⟩ _ rfl (by kernel_rfl) (by kernel_rfl) (by kernel_rfl) (by kernel_rfl) rfl ?_
 exact xe_wkL (kF 3 0 [0,3,4,7,8,24,27,28,31,32,36,39,43]) (by kernel_rfl) (hD17 ())
 refine xe_cut (α := Nat) (fun zz => (fun (g905 : Nat) => (⟨[(0,.v (.pointer (some ⟨g,0,none⟩))),(3,.p 0 0),(4,.p 1 0),(7,.v (.bool y1.2.2)),(24,.v (.int .i64 x.t.port)),(27,.v (.int .i64 x.t.my)),(28,.v (.int .i64 sq)),(31,.v (.int .i64 x.s.una)),(32,.v (.pointer (some ⟨g,0,none⟩))),(35,.v (.int .i64 (flown x.s))),(39,.v (.pointer (some ⟨g,0,none⟩))),(40,.v (.slice (some ⟨g905,0,none⟩) 5 5)),(43,.v (.string y1.2.1))],[⟨44,conL x xV⟩,⟨50,segZ⟩],[],[curF B g 137 (.slice A J.length cap) J.length,slF (.slice A J.length cap) 1 (J.map bR),frF w (fun b => b = g),rowF (cutW w B).heap.size 3 1 (.slice (some ⟨g905,0,none⟩) 5 5) (([0,1,8,64,65535] : List Int).map intRow)]⟩ : St)) zz) 8 (listB 25 2506751) ?_ (fun hD19 => ?_)
 intro g905
 try dsimp only
 refine kTD [14] [36,0,3,4,7,24,27,28,31,32,39,40,43] 7 [(36,.v (.int .i64 (IntKind.i64.wrap ((flown x.s) + 1))))] ?_
 refine kA [15,23] ⟨?_,?_⟩
 refine kSW 15 133 [.pointer (some ⟨g,0,none⟩),.int .i64 (IntKind.i64.wrap ((flown x.s) + 1))] (some 37) 0 rfl rfl hlo (under_t (under_t under_nil)) (l1Below_c_K hBw hap) ?_
 rintro ⟨y755,hy755⟩
 obtain ⟨hy7550,hy7551⟩ := hy755
 exact xe_wkL (kF 2 0 [0,3,4,7,24,27,28,31,37,39,40,43]) (by kernel_rfl) (hD12 ⟨(y755,g905),⟨hy7550,hy7551⟩⟩)
 refine xs_box 23 ⟨50,segZ⟩ _ rfl (by kernel_rfl) (by kernel_rfl) (by kernel_rfl) (by kernel_rfl) rfl ?_
 exact xe_wkL (kF 3 0 [0,3,4,7,8,24,27,28,31,32,36,39,40,43]) (by kernel_rfl) (hD16 (g905))
 refine xe_cut (α := Nat) (fun zz => (fun (g905 : Nat) => (⟨[(0,.v (.pointer (some ⟨g,0,none⟩))),(3,.p 0 0),(4,.p 1 0),(7,.v (.bool y1.2.2)),(8,.p 2 0),(24,.v (.int .i64 x.t.port)),(27,.v (.int .i64 x.t.my)),(28,.v (.int .i64 sq)),(31,.v (.int .i64 x.s.una)),(32,.v (.pointer (some ⟨g,0,none⟩))),(35,.v (.int .i64 (flown x.s))),(39,.v (.pointer (some ⟨g,0,none⟩))),(40,.v (.slice (some ⟨g905,0,none⟩) 5 5)),(43,.v (.string y1.2.1))],[⟨44,conL x xV⟩,⟨50,segZ⟩,⟨50,segZ⟩],[],[curF B g 137 (.slice A J.length cap) J.length,slF (.slice A J.length cap) 1 (J.map bR),frF w (fun b => b = g),rowF (cutW w B).heap.size 3 1 (.slice (some ⟨g905,0,none⟩) 5 5) (([0,1,8,64,65535] : List Int).map intRow)]⟩ : St)) zz) 7 (listB 25 10895359) ?_ (fun hD21 => ?_)
 intro g905
 try dsimp only
 refine kTD [14] [36,0,3,4,7,8,24,27,28,31,32,39,40,43] 6 [(36,.v (.int .i64 (IntKind.i64.wrap ((flown x.s) + 1))))] ?_
 refine kA [15] ?_
 refine kSW 15 133 [.pointer (some ⟨g,0,none⟩),.int .i64 (IntKind.i64.wrap ((flown x.s) + 1))] (some 37) 0 rfl rfl hlo (under_t (under_t under_nil)) (l1Below_c_K hBw hap) ?_
 rintro ⟨y755,hy755⟩
 obtain ⟨hy7550,hy7551⟩ := hy755
 exact xe_wkL (kF 3 0 [0,3,4,7,8,24,27,28,31,37,39,40,43]) (by kernel_rfl) (hD13 ⟨(y755,g905),⟨hy7550,hy7551⟩⟩)
 refine xe_cut (α := Nat) (fun zz => (fun (g905 : Nat) => (⟨[(0,.v (.pointer (some ⟨g,0,none⟩))),(3,.p 0 0),(4,.p 1 0),(7,.v (.bool y1.2.2)),(8,.p 2 0),(24,.v (.int .i64 x.t.port)),(27,.v (.int .i64 x.t.my)),(28,.v (.int .i64 sq)),(31,.v (.int .i64 x.s.una)),(32,.v (.pointer (some ⟨g,0,none⟩))),(34,.v (.agg (sndL x.s).toArray)),(39,.v (.pointer (some ⟨g,0,none⟩))),(40,.v (.slice (some ⟨g905,0,none⟩) 5 5)),(43,.v (.string y1.2.1))],[⟨44,conL x xV⟩,⟨50,segZ⟩,⟨50,segZ⟩],[],[curF B g 137 (.slice A J.length cap) J.length,slF (.slice A J.length cap) 1 (J.map bR),frF w (fun b => b = g),rowF (cutW w B).heap.size 3 1 (.slice (some ⟨g905,0,none⟩) 5 5) (([0,1,8,64,65535] : List Int).map intRow)]⟩ : St)) zz) 8 (listB 25 10887167) ?_ (fun hD20 => ?_)
 intro g905
 try dsimp only
 refine kA [13] ?_
 refine kSC 13 77 [.agg (sndL x.s).toArray] (some 35) rfl (xc_b fun ww hf => sFlown_c x.s.una x.s.data x.s.sent x.s.fin x.s.finSent x.s.done ww ) ?_
 intro _
 exact xe_wkL (kF 3 0 [0,3,4,7,8,24,27,28,31,32,35,39,40,43]) (by kernel_rfl) (hD21 (g905))
 refine xe_cut (α := Nat) (fun zz => (fun (g905 : Nat) => (⟨[(0,.v (.pointer (some ⟨g,0,none⟩))),(3,.p 0 0),(4,.p 1 0),(7,.v (.bool y1.2.2)),(24,.v (.int .i64 x.t.port)),(27,.v (.int .i64 x.t.my)),(28,.v (.int .i64 sq)),(31,.v (.int .i64 x.s.una)),(32,.v (.pointer (some ⟨g,0,none⟩))),(34,.v (.agg (sndL x.s).toArray)),(39,.v (.pointer (some ⟨g,0,none⟩))),(40,.v (.slice (some ⟨g905,0,none⟩) 5 5)),(43,.v (.string y1.2.1))],[⟨44,conL x xV⟩,⟨50,segZ⟩],[],[curF B g 137 (.slice A J.length cap) J.length,slF (.slice A J.length cap) 1 (J.map bR),frF w (fun b => b = g),rowF (cutW w B).heap.size 3 1 (.slice (some ⟨g905,0,none⟩) 5 5) (([0,1,8,64,65535] : List Int).map intRow)]⟩ : St)) zz) 9 (listB 25 2498559) ?_ (fun hD18 => ?_)
 intro g905
 try dsimp only
 refine kA [13,23] ⟨?_,?_⟩
 refine kSC 13 77 [.agg (sndL x.s).toArray] (some 35) rfl (xc_b fun ww hf => sFlown_c x.s.una x.s.data x.s.sent x.s.fin x.s.finSent x.s.done ww ) ?_
 intro _
 exact xe_wkL (kF 2 0 [0,3,4,7,24,27,28,31,32,35,39,40,43]) (by kernel_rfl) (hD19 (g905))
 refine xs_box 23 ⟨50,segZ⟩ _ rfl (by kernel_rfl) (by kernel_rfl) (by kernel_rfl) (by kernel_rfl) rfl ?_
 exact xe_wkL (kF 3 0 [0,3,4,7,8,24,27,28,31,32,34,39,40,43]) (by kernel_rfl) (hD20 (g905))
 refine xe_cut (α := Unit) (fun zz => (fun (u_ : Unit) => (⟨[(0,.v (.pointer (some ⟨g,0,none⟩))),(3,.p 0 0),(4,.p 1 0),(7,.v (.bool y1.2.2)),(8,.p 2 0),(24,.v (.int .i64 x.t.port)),(27,.v (.int .i64 x.t.my)),(28,.v (.int .i64 sq)),(31,.v (.int .i64 x.s.una)),(32,.v (.pointer (some ⟨g,0,none⟩))),(35,.v (.int .i64 (flown x.s))),(39,.v (.pointer (some ⟨g,0,none⟩))),(43,.v (.string y1.2.1))],[⟨44,conL x xV⟩,⟨50,segZ⟩,⟨50,segZ⟩],[],[curF B g 137 (.slice A J.length cap) J.length,slF (.slice A J.length cap) 1 (J.map bR),frF w (fun b => b = g)]⟩ : St)) zz) 8 (listB 25 10633215) ?_ (fun hD23 => ?_)
 intro u_
 try dsimp only
 refine kTD [14] [36,0,3,4,7,8,24,27,28,31,32,39,43] 7 [(36,.v (.int .i64 (IntKind.i64.wrap ((flown x.s) + 1))))] ?_
 refine kA [15,18] ⟨?_,?_⟩
 refine kSW 15 133 [.pointer (some ⟨g,0,none⟩),.int .i64 (IntKind.i64.wrap ((flown x.s) + 1))] (some 37) 0 rfl rfl hlo (under_t (under_t under_nil)) (l1Below_c_K hBw hap) ?_
 rintro ⟨y755,hy755⟩
 obtain ⟨hy7550,hy7551⟩ := hy755
 exact xe_wkL (kF 3 0 [0,3,4,7,8,24,27,28,31,37,39,43]) (by kernel_rfl) (hD14 ⟨(y755),⟨hy7550,hy7551⟩⟩)
 refine kSH 18 rfl (under_t (under_t under_nil)) (hv_build (e := 3) (K := 1) (bytes := 8) [.int .i64 0,.int .i64 1,.int .i64 8,.int .i64 64,.int .i64 65535] rfl (by kernel_rfl) (by kernel_rfl) (by kernel_rfl) (by kernel_rfl) (by kernel_rfl) (rs := ([0,1,8,64,65535] : List Int).map intRow) rfl) ?_
 intro g905
 exact xe_wkL (kPk [1,2,3,0] <| kF 3 0 [0,3,4,7,8,24,27,28,31,32,36,39,40,43]) (by kernel_rfl) (hD16 (g905))
 refine xe_cut (α := Unit) (fun zz => (fun (u_ : Unit) => (⟨[(0,.v (.pointer (some ⟨g,0,none⟩))),(3,.p 0 0),(4,.p 1 0),(7,.v (.bool y1.2.2)),(8,.p 2 0),(24,.v (.int .i64 x.t.port)),(27,.v (.int .i64 x.t.my)),(28,.v (.int .i64 sq)),(31,.v (.int .i64 x.s.una)),(32,.v (.pointer (some ⟨g,0,none⟩))),(34,.v (.agg (sndL x.s).toArray)),(39,.v (.pointer (some ⟨g,0,none⟩))),(43,.v (.string y1.2.1))],[⟨44,conL x xV⟩,⟨50,segZ⟩,⟨50,segZ⟩],[],[curF B g 137 (.slice A J.length cap) J.length,slF (.slice A J.length cap) 1 (J.map bR),frF w (fun b => b = g)]⟩ : St)) zz) 9 (listB 25 10625023) ?_ (fun hD22 => ?_)
 intro u_
 try dsimp only
 refine kA [13,18] ⟨?_,?_⟩
 refine kSC 13 77 [.agg (sndL x.s).toArray] (some 35) rfl (xc_b fun ww hf => sFlown_c x.s.una x.s.data x.s.sent x.s.fin x.s.finSent x.s.done ww ) ?_
 intro _
 exact xe_wkL (kF 3 0 [0,3,4,7,8,24,27,28,31,32,35,39,43]) (by kernel_rfl) (hD23 ())
 refine kSH 18 rfl (under_t (under_t under_nil)) (hv_build (e := 3) (K := 1) (bytes := 8) [.int .i64 0,.int .i64 1,.int .i64 8,.int .i64 64,.int .i64 65535] rfl (by kernel_rfl) (by kernel_rfl) (by kernel_rfl) (by kernel_rfl) (by kernel_rfl) (rs := ([0,1,8,64,65535] : List Int).map intRow) rfl) ?_
 intro g905
 exact xe_wkL (kPk [1,2,3,0] <| kF 3 0 [0,3,4,7,8,24,27,28,31,32,34,39,40,43]) (by kernel_rfl) (hD20 (g905))
 refine kTD [0,1,2,3,4,5,6,7,8,9,10,11,12,17,21] [43,39,34,32,31,28,27,24,0,3,4,7] 10 [(43,.v (.string y1.2.1)),(39,.v (.pointer (some ⟨g,0,none⟩))),(34,.v (.agg (sndL x.s).toArray)),(32,.v (.pointer (some ⟨g,0,none⟩))),(31,.v (.int .i64 x.s.una)),(28,.v (.int .i64 sq)),(27,.v (.int .i64 x.t.my)),(24,.v (.int .i64 x.t.port))] ?_
 refine kA [13,18,23] ⟨?_,?_,?_⟩
 refine kSC 13 77 [.agg (sndL x.s).toArray] (some 35) rfl (xc_b fun ww hf => sFlown_c x.s.una x.s.data x.s.sent x.s.fin x.s.finSent x.s.done ww ) ?_
 intro _
 exact xe_wkL (kF 2 0 [0,3,4,7,24,27,28,31,32,35,39,43]) (by kernel_rfl) (hD0 ())
 refine kSH 18 rfl (under_t (under_t under_nil)) (hv_build (e := 3) (K := 1) (bytes := 8) [.int .i64 0,.int .i64 1,.int .i64 8,.int .i64 64,.int .i64 65535] rfl (by kernel_rfl) (by kernel_rfl) (by kernel_rfl) (by kernel_rfl) (by kernel_rfl) (rs := ([0,1,8,64,65535] : List Int).map intRow) rfl) ?_
 intro g905
 exact xe_wkL (kPk [1,2,3,0] <| kF 2 0 [0,3,4,7,24,27,28,31,32,34,39,40,43]) (by kernel_rfl) (hD18 (g905))
 refine xs_box 23 ⟨50,segZ⟩ _ rfl (by kernel_rfl) (by kernel_rfl) (by kernel_rfl) (by kernel_rfl) rfl ?_
 exact xe_wkL (kF 3 0 [0,3,4,7,8,24,27,28,31,32,34,39,43]) (by kernel_rfl) (hD22 ())
theorem l19Segment_c_K {g : Nat} {J : List Int} {A : Option Addr} {cap : Nat} {x : Con} {xV : Value} {w0 : World} {fs : List Fact} {B : Nat} (hB : B ≤ w0.heap.size) (hap : ¬ (slF (.slice A J.length cap) 1 (J.map bR)).blk g)  (hn : J.length ≤ 1048576 := by omega) (h1 : curF B g 137 (.slice A J.length cap) J.length ∈ fs := by simp) (h2 : slF (.slice A J.length cap) 1 (J.map bR) ∈ fs := by simp) : XCM Tryz.prog w0 fs (curF B g 137 (.slice A J.length cap) J.length).blk 109 [.pointer (some ⟨g, 0, none⟩), .agg (conL x xV).toArray] (α := {y : Seg // y.body.size ≤ 4096}) (fun y => .agg (segL y.1).toArray) (fun _ => [curF B g 137 (.slice A J.length cap) J.length]) := xcm_cur fun w hw hf => l19Segment_c g J A cap x xV w B (Nat.le_trans hB hw) (hf _ h1) (hf _ h2) hap hn  
theorem l19Conn_c (g : Nat) (J : List Int) (A : Option Addr) (cap : Nat) (w : World) (B : Nat) (hB : B ≤ w.heap.size) (hc : (curF B g 137 (.slice A J.length cap) J.length).p w) (hl : Sl w (.slice A J.length cap) 1 (J.map bR)) (hap : ¬ (slF (.slice A J.length cap) 1 (J.map bR)).blk g) (hn : J.length ≤ 1048576) : Calls Tryz.prog 132 #[.pointer (some ⟨g, 0, none⟩)] w fun e w' => ∃ y : {y : Con × (Option Addr × Nat) // RB 4 y.1.r}, e = .returned (.agg (conL y.1.1 (.slice y.1.2.1 y.1.1.r.held.length y.1.2.2)).toArray) ∧ (curF B g 137 (.slice A J.length cap) J.length).p w' ∧ (newF w.heap.size (.slice y.1.2.1 y.1.1.r.held.length y.1.2.2) 2 (y.1.1.r.held.map pC)).p w' ∧ g < w.heap.size ∧ Chgd (fun b => b = g) w w' := by
 have hq_code := Sl.capLe hl
 have hBw : B ≤ (cutW w B).heap.size := Nat.le_of_eq (cutW_size hB).symm
 have hlo : ∀ (ww : World) (b : Nat),(curF B g 137 (.slice A J.length cap) J.length).p ww → (curF B g 137 (.slice A J.length cap) J.length).blk b → (cutW w B).heap.size ≤ b := fun ww b h hb => Nat.le_trans (cutW_le w B) (cur_lo h hb)
 refine x_callsMA (args := [.pointer (some ⟨g,0,none⟩)]) (fn := Tryz.f132) [curF B g 137 (.slice A J.length cap) J.length,slF (.slice A J.length cap) 1 (J.map bR),frF w (fun b => b = g)] B Tryz.func132 rfl Tryz.ntmps132 rfl hB (by simp only [List.mem_cons,List.not_mem_nil,or_false,forall_eq_or_imp,forall_eq]; exact ⟨hc,hl,frF_start w _⟩) (apart_cur hap rfl) ?_
 have hgl : g < w.heap.size := (curF B g 137 (.slice A J.length cap) J.length).lt w g hc rfl
 refine kQ ?_
 refine kEF [0,2] ⟨[(0,.v (.pointer (some ⟨g,0,none⟩))),(2,.p 0 0)],[⟨44,conZ⟩],[],[curF B g 137 (.slice A J.length cap) J.length,slF (.slice A J.length cap) 1 (J.map bR),frF w (fun b => b = g)]⟩ ?_
 refine kQ ?_
 refine kWD 1 [0,2,6] [(6,.v (.pointer (some ⟨g,0,none⟩)))] 147 [.pointer (some ⟨g,0,none⟩)] (some 7) 0 rfl rfl hlo (l12Tuple_c_K hBw hap) ?_
 rintro ⟨y1,hy1⟩
 refine kWD 1 [0,2,7,8] [(8,.v (.pointer (some ⟨g,0,none⟩)))] 148 [.pointer (some ⟨g,0,none⟩)] (some 9) 0 rfl rfl hlo (l2Deep_c_K hBw hap) ?_
 rintro ⟨y2,hy2⟩
 refine kWD 1 [0,2,7,9,10] [(10,.v (.pointer (some ⟨g,0,none⟩)))] 148 [.pointer (some ⟨g,0,none⟩)] (some 11) 0 rfl rfl hlo (l2Deep_c_K hBw hap) ?_
 rintro ⟨y3,hy3⟩
 refine kWD 1 [0,2,7,9,11,12] [(12,.v (.pointer (some ⟨g,0,none⟩)))] 149 [.pointer (some ⟨g,0,none⟩)] (some 13) 0 rfl rfl hlo (l8Options_c_K hBw hap) ?_
 rintro ⟨y4,hy4⟩
 refine kHD 1 [0,2,7,9,11,13,14] [(14,.v (.pointer (some ⟨g,0,none⟩)))] rfl (hv_build (e := 3) (K := 1) (bytes := 8) [.int .i64 0,.int .i64 4,.int .i64 64,.int .i64 65535] rfl (by kernel_rfl) (by kernel_rfl) (by kernel_rfl) (by kernel_rfl) (by kernel_rfl) (rs := ([0,4,64,65535] : List Int).map intRow) rfl) ?_
 intro g5
 refine xl_know (φ := ¬ (slF (.slice (some ⟨g5,0,none⟩) 4 4) 1 (([0,4,64,65535] : List Int).map intRow)).blk g) (fun _ _ _ _ hr => fun hb => hr.2.apart 0 1 (rowF (cutW w B).heap.size 3 1 (.slice (some ⟨g5,0,none⟩) 4 4) (([0,4,64,65535] : List Int).map intRow)) (curF B g 137 (.slice A J.length cap) J.length) rfl rfl (by decide) rfl g (rowF_sblk hb) rfl) (fun hk6 => ?_)
 refine kWD 0 [0,2,7,9,11,13,14,15] [] 136 [.pointer (some ⟨g,0,none⟩),.slice (some ⟨g5,0,none⟩) 4 4] (some 16) 1 rfl rfl hlo (l1PickInt_c_K hBw hap (fun ww hw hf => (rowF_sl (hf _ m0))) hk6 (by simp)) ?_
 rintro ⟨y7,hy7⟩
 refine kCD 0 [0,2,7,9,11,13,16] [] 146 [.agg (tupL y1).toArray,.int .i64 y2,.int .i64 y3,.agg (optL y4).toArray,.int .i64 y7] (some 17) rfl (xc_r fun ww hw hf => ysConnNew_c y1 y2 y3 y4 y7 ww   ((cutW w B).heap.size) hw) ?_
 rintro ⟨v8a,v8c⟩
 have hbd9 : (connNew y1 y2 y3 y4 y7).r.held.length ≤ 1048576 := connNew_bd _ _ _ _ _  (by omega)
 refine kEA [0,2,3] [(3,.p 1 0)] [⟨44,conL (connNew y1 y2 y3 y4 y7) (.slice v8a ((connNew y1 y2 y3 y4 y7).r.held.length) v8c)⟩] ?_
 refine kQ ?_
 refine kWD 1 [0,2,3,18] [(18,.v (.pointer (some ⟨g,0,none⟩)))] 133 [.pointer (some ⟨g,0,none⟩),.int .i64 9] (some 19) 1 rfl rfl hlo (l1Below_c_K hBw hap) ?_
 rintro ⟨y10,hy10⟩
 obtain ⟨hy100,hy101⟩ := hy10
 refine kED [0,2,3,4] [(4,.v (.int .i64 y10))] ?_
 refine kS ?_
 refine kQ ?_
 refine kES [0,2,3,4,5] [(0,.v (.pointer (some ⟨g,0,none⟩))),(2,.p 0 0),(3,.p 1 0),(4,.v (.int .i64 y10)),(5,.v (.int .i64 0))] ?_
 refine xw_block ?_
 refine xw_loopW (α := {x : Nat × Con × Option Addr × Nat // (fun (i : Nat) (x : Con) (A1 : Option Addr) (c1 : Nat) => (i : Int) ≤ y10 ∧ RB 3 x.r) x.1 x.2.1 x.2.2.1 x.2.2.2}) (fun x => (fun (i : Nat) (x : Con) (A1 : Option Addr) (c1 : Nat) => (⟨[(0,.v (.pointer (some ⟨g,0,none⟩))),(2,.p 0 0),(3,.p 1 0),(4,.v (.int .i64 y10)),(5,.v (.int .i64 (i : Int)))],[⟨44,conZ⟩,⟨44,conL x (.slice A1 x.r.held.length c1)⟩],[],[ownF (cutW w B).heap.size (.slice A1 x.r.held.length c1) 2 (x.r.held.map pC),curF B g 137 (.slice A J.length cap) J.length,rowF (cutW w B).heap.size 3 1 (.slice (some ⟨g5,0,none⟩) 4 4) (([0,4,64,65535] : List Int).map intRow),slF (.slice A J.length cap) 1 (J.map bR),frF w (fun b => b = g)]⟩ : St)) x.1.1 x.1.2.1 x.1.2.2.1 x.1.2.2.2) (fun x => (fun (i : Nat) (x : Con) (A1 : Option Addr) (c1 : Nat) => (y10).toNat - i) x.1.1 x.1.2.1 x.1.2.2.1 x.1.2.2.2) ⟨(0,(connNew y1 y2 y3 y4 y7),v8a,v8c),⟨(by omega),RB.newC _ _ _ _ _⟩⟩ (kPk [1,0,2,3,4] <| kF 2 0 [0,2,3,4,5]) ?_
 rintro ⟨⟨i,x,A1,c1⟩,hi,hrb⟩
 try dsimp only
 try dsimp only at hi hrb
 have hkn := hrb.up.kn; have hm := hrb.hm; have hsz := hrb.sz
 refine kS ?_
 refine kQ ?_
 refine kED [0,2,3,4,5,22] [(22,.v (.bool (decide ((i : Int) < y10))))] ?_
 refine kC (decide ((i : Int) < y10)) (fun h11 => ?_) (fun h11 => ?_)
 have h11p := of_decide_eq_true h11
 have hlt :  (i : Int) < y10 := of_decide_eq_true h11
 refine kK ?_
 refine kS ?_
 refine xw_joinF (α := {zz : Con × Option Addr × Nat // (fun (x2 : Con) (A4 : Option Addr) (c4 : Nat) => RB 3 x2.r) zz.1 zz.2.1 zz.2.2}) (fun zz => (fun (x2 : Con) (A4 : Option Addr) (c4 : Nat) => (⟨[(0,.v (.pointer (some ⟨g,0,none⟩))),(2,.p 0 0),(3,.p 1 0),(4,.v (.int .i64 y10)),(5,.v (.int .i64 (i : Int)))],[⟨44,conZ⟩,⟨44,conL x2 (.slice A4 x2.r.held.length c4)⟩],[],[ownF (cutW w B).heap.size (.slice A4 x2.r.held.length c4) 2 (x2.r.held.map pC),curF B g 137 (.slice A J.length cap) J.length,rowF (cutW w B).heap.size 3 1 (.slice (some ⟨g5,0,none⟩) 4 4) (([0,4,64,65535] : List Int).map intRow),slF (.slice A J.length cap) 1 (J.map bR),frF w (fun b => b = g)]⟩ : St)) zz.1.1 zz.1.2.1 zz.1.2.2) ?_ ?_
 refine xw_block ?_
 refine kQ ?_
 refine kWD 1 [0,2,3,4,5,25] [(25,.v (.pointer (some ⟨g,0,none⟩)))] 133 [.pointer (some ⟨g,0,none⟩),.int .i64 8] (some 26) 1 rfl rfl hlo (l1Below_c_K hBw hap) ?_
 rintro ⟨y12,hy12⟩
 obtain ⟨hy120,hy121⟩ := hy12
 refine kED [0,2,3,4,5,26] [] ?_
 refine xw_block ?_
 refine kQ ?_
 refine kED [0,2,3,4,5,26,36] [(36,.v (.bool (y12 == 0)))] ?_
 refine kC (y12 == 0) (fun h13 => ?_) (fun h13 => ?_)
 have h13p := eqT h13
 refine xe_region0 [true,false] (by kernel_rfl) (fun ρ σ => ?_)
 refine kTD [1,2] [41,40,0,2,3,4,5] 10 [(41,.v (.pointer (some ⟨g,0,none⟩))),(40,.v (.pointer (some ⟨g,0,none⟩)))] ?_
 refine kA [0,3] ⟨?_,?_⟩
 refine kSV 0 (.v (.agg (conL x (.slice A1 x.r.held.length c1)).toArray)) rfl ?_
 refine kA [3] ?_
 refine kSW 3 133 [.pointer (some ⟨g,0,none⟩),.int .i64 20] (some 42) 0 rfl rfl hlo (under_t (under_f rfl under_nil)) (l1Below_c_K hBw hap) ?_
 rintro ⟨y14,hy14⟩
 obtain ⟨hy140,hy141⟩ := hy14
 refine kA [4] ?_
 refine kSW 4 151 [.pointer (some ⟨g,0,none⟩),.int .i64 y14] (some 43) 0 rfl rfl hlo (under_t (under_f rfl under_nil)) (xcm_curR fun ww hw hf => l1Bytes_c g J A cap y14 ww B (Nat.le_trans (by first | exact Nat.le_refl _ | exact Nat.le_of_eq (cutW_size hB).symm) hw) (hf (curF B g 137 (.slice A J.length cap) J.length) (by simp)) (hf _ m3) hap (by omega) (by omega)) ?_
 rintro ⟨⟨b15l,b15a,b15c⟩,hb15⟩
 dsimp only at hb15
 refine kA [5] ?_
 refine kSR 5 (.string (bstr b15l)) rfl (fun _ _ ww hr => act_b2s (e := 5) b15l hr.1 rfl (by kernel_rfl) (by kernel_rfl) (by kernel_rfl) rfl (rowF_sl (hr.2.fact (rowF (cutW w B).heap.size 5 1 (.slice b15a b15l.length b15c) (b15l.map bR)) (by simp)).1)) ?_
 refine kA [6] ?_
 refine kSC 6 150 [.agg (conL x (.slice A1 x.r.held.length c1)).toArray,.string (bstr b15l)] (some 45) rfl (xc_r fun ww hw hf => ysWrite_c x (.slice A1 x.r.held.length c1) (bstr b15l) ww (Own.sl (hf _ m2)) (by assumption) (by assumption) (by omega) (by first | omega | (rw [bstr_size]; omega) | decide) ((cutW w B).heap.size) hw) ?_
 rintro ⟨⟨v16a,v16c⟩,⟨v17a,v17c⟩⟩
 have hbd18 : (write x (bstr b15l)).1.r.held.length ≤ 1048576 ∧ (write x (bstr b15l)).2.2.length ≤ 49 := write_bd _ _  (by omega)
 have hbd18a := hbd18.1; have hbd18b := hbd18.2
 refine kTD [7,8,9,10] [46,0,2,3,4,5] 1 [(46,.v (.agg (conL (write x (bstr b15l)).1 (.slice v16a ((write x (bstr b15l)).1.r.held.length) v16c)).toArray))] ?_
 refine kA [11] ?_
 refine kSS 11 1 0 (conL (write x (bstr b15l)).1 (.slice v16a ((write x (bstr b15l)).1.r.held.length) v16c)) rfl ?_
 refine kZ ?_
 exact ⟨⟨((write x (bstr b15l)).1,v16a,v16c),(by first | exact RB.write hrb _ | exact RB.tick hrb | exact RB.shut hrb | exact RB.read hrb _ | exact RB.recv hrb (by omega) _ | exact hrb)⟩,kPk [0,3,5,6,7] <| kF 2 0 [0,2,3,4,5]⟩
 refine kSW 3 133 [.pointer (some ⟨g,0,none⟩),.int .i64 20] (some 42) 0 rfl rfl hlo (under_t (under_f rfl under_nil)) (l1Below_c_K hBw hap) ?_
 rintro ⟨y19,hy19⟩
 obtain ⟨hy190,hy191⟩ := hy19
 refine kA [0,4] ⟨?_,?_⟩
 refine kSV 0 (.v (.agg (conL x (.slice A1 x.r.held.length c1)).toArray)) rfl ?_
 refine kA [4] ?_
 refine kSW 4 151 [.pointer (some ⟨g,0,none⟩),.int .i64 y19] (some 43) 0 rfl rfl hlo (under_t (under_f rfl under_nil)) (xcm_curR fun ww hw hf => l1Bytes_c g J A cap y19 ww B (Nat.le_trans (by first | exact Nat.le_refl _ | exact Nat.le_of_eq (cutW_size hB).symm) hw) (hf (curF B g 137 (.slice A J.length cap) J.length) (by simp)) (hf _ m3) hap (by omega) (by omega)) ?_
 rintro ⟨⟨b20l,b20a,b20c⟩,hb20⟩
 dsimp only at hb20
 refine kA [5] ?_
 refine kSR 5 (.string (bstr b20l)) rfl (fun _ _ ww hr => act_b2s (e := 5) b20l hr.1 rfl (by kernel_rfl) (by kernel_rfl) (by kernel_rfl) rfl (rowF_sl (hr.2.fact (rowF (cutW w B).heap.size 5 1 (.slice b20a b20l.length b20c) (b20l.map bR)) (by simp)).1)) ?_
 refine kA [6] ?_
 refine kSC 6 150 [.agg (conL x (.slice A1 x.r.held.length c1)).toArray,.string (bstr b20l)] (some 45) rfl (xc_r fun ww hw hf => ysWrite_c x (.slice A1 x.r.held.length c1) (bstr b20l) ww (Own.sl (hf _ m2)) (by assumption) (by assumption) (by omega) (by first | omega | (rw [bstr_size]; omega) | decide) ((cutW w B).heap.size) hw) ?_
 rintro ⟨⟨v21a,v21c⟩,⟨v22a,v22c⟩⟩
 have hbd23 : (write x (bstr b20l)).1.r.held.length ≤ 1048576 ∧ (write x (bstr b20l)).2.2.length ≤ 49 := write_bd _ _  (by omega)
 have hbd23a := hbd23.1; have hbd23b := hbd23.2
 refine kTD [7,8,9,10] [46,0,2,3,4,5] 1 [(46,.v (.agg (conL (write x (bstr b20l)).1 (.slice v21a ((write x (bstr b20l)).1.r.held.length) v21c)).toArray))] ?_
 refine kA [11] ?_
 refine kSS 11 1 0 (conL (write x (bstr b20l)).1 (.slice v21a ((write x (bstr b20l)).1.r.held.length) v21c)) rfl ?_
 refine kZ ?_
 exact ⟨⟨((write x (bstr b20l)).1,v21a,v21c),(by first | exact RB.write hrb _ | exact RB.tick hrb | exact RB.shut hrb | exact RB.read hrb _ | exact RB.recv hrb (by omega) _ | exact hrb)⟩,kPk [0,3,5,6,7] <| kF 2 0 [0,2,3,4,5]⟩
 refine kSW 4 151 [.pointer (some ⟨g,0,none⟩),.int .i64 y19] (some 43) 0 rfl rfl hlo (under_t (under_f rfl under_nil)) (xcm_curR fun ww hw hf => l1Bytes_c g J A cap y19 ww B (Nat.le_trans (by first | exact Nat.le_refl _ | exact Nat.le_of_eq (cutW_size hB).symm) hw) (hf (curF B g 137 (.slice A J.length cap) J.length) (by simp)) (hf _ m3) hap (by omega) (by omega)) ?_
 rintro ⟨⟨b24l,b24a,b24c⟩,hb24⟩
 dsimp only at hb24
 refine kA [0,5] ⟨?_,?_⟩
 refine kSV 0 (.v (.agg (conL x (.slice A1 x.r.held.length c1)).toArray)) rfl ?_
 refine kA [5] ?_
 refine kSR 5 (.string (bstr b24l)) rfl (fun _ _ ww hr => act_b2s (e := 5) b24l hr.1 rfl (by kernel_rfl) (by kernel_rfl) (by kernel_rfl) rfl (rowF_sl (hr.2.fact (rowF (cutW w B).heap.size 5 1 (.slice b24a b24l.length b24c) (b24l.map bR)) (by simp)).1)) ?_
 refine kA [6] ?_
 refine kSC 6 150 [.agg (conL x (.slice A1 x.r.held.length c1)).toArray,.string (bstr b24l)] (some 45) rfl (xc_r fun ww hw hf => ysWrite_c x (.slice A1 x.r.held.length c1) (bstr b24l) ww (Own.sl (hf _ m2)) (by assumption) (by assumption) (by omega) (by first | omega | (rw [bstr_size]; omega) | decide) ((cutW w B).heap.size) hw) ?_
 rintro ⟨⟨v25a,v25c⟩,⟨v26a,v26c⟩⟩
 have hbd27 : (write x (bstr b24l)).1.r.held.length ≤ 1048576 ∧ (write x (bstr b24l)).2.2.length ≤ 49 := write_bd _ _  (by omega)
 have hbd27a := hbd27.1; have hbd27b := hbd27.2
 refine kTD [7,8,9,10] [46,0,2,3,4,5] 1 [(46,.v (.agg (conL (write x (bstr b24l)).1 (.slice v25a ((write x (bstr b24l)).1.r.held.length) v25c)).toArray))] ?_
 refine kA [11] ?_
 refine kSS 11 1 0 (conL (write x (bstr b24l)).1 (.slice v25a ((write x (bstr b24l)).1.r.held.length) v25c)) rfl ?_
 refine kZ ?_
 exact ⟨⟨((write x (bstr b24l)).1,v25a,v25c),(by first | exact RB.write hrb _ | exact RB.tick hrb | exact RB.shut hrb | exact RB.read hrb _ | exact RB.recv hrb (by omega) _ | exact hrb)⟩,kPk [0,3,5,6,7] <| kF 2 0 [0,2,3,4,5]⟩
 refine kSR 5 (.string (bstr b24l)) rfl (fun _ _ ww hr => act_b2s (e := 5) b24l hr.1 rfl (by kernel_rfl) (by kernel_rfl) (by kernel_rfl) rfl (rowF_sl (hr.2.fact (rowF (cutW w B).heap.size 5 1 (.slice b24a b24l.length b24c) (b24l.map bR)) (by simp)).1)) ?_
 refine kA [0] ?_
 refine kSV 0 (.v (.agg (conL x (.slice A1 x.r.held.length c1)).toArray)) rfl ?_
 refine kA [6] ?_
 refine kSC 6 150 [.agg (conL x (.slice A1 x.r.held.length c1)).toArray,.string (bstr b24l)] (some 45) rfl (xc_r fun ww hw hf => ysWrite_c x (.slice A1 x.r.held.length c1) (bstr b24l) ww (Own.sl (hf _ m2)) (by assumption) (by assumption) (by omega) (by first | omega | (rw [bstr_size]; omega) | decide) ((cutW w B).heap.size) hw) ?_
 rintro ⟨⟨v28a,v28c⟩,⟨v29a,v29c⟩⟩
 have hbd30 : (write x (bstr b24l)).1.r.held.length ≤ 1048576 ∧ (write x (bstr b24l)).2.2.length ≤ 49 := write_bd _ _  (by omega)
 have hbd30a := hbd30.1; have hbd30b := hbd30.2
 refine kTD [7,8,9,10] [46,0,2,3,4,5] 1 [(46,.v (.agg (conL (write x (bstr b24l)).1 (.slice v28a ((write x (bstr b24l)).1.r.held.length) v28c)).toArray))] ?_
 refine kA [11] ?_
 refine kSS 11 1 0 (conL (write x (bstr b24l)).1 (.slice v28a ((write x (bstr b24l)).1.r.held.length) v28c)) rfl ?_
 refine kZ ?_
 exact ⟨⟨((write x (bstr b24l)).1,v28a,v28c),(by first | exact RB.write hrb _ | exact RB.tick hrb | exact RB.shut hrb | exact RB.read hrb _ | exact RB.recv hrb (by omega) _ | exact hrb)⟩,kPk [0,3,5,6,7] <| kF 2 0 [0,2,3,4,5]⟩
 have h13p := eqF h13
 refine kQ ?_
 refine kED [0,2,3,4,5,26,49] [(49,.v (.bool (y12 == 1)))] ?_
 refine kC (y12 == 1) (fun h31 => ?_) (fun h31 => ?_)
 have h31p := eqT h31
 refine kG ?_
 refine kCD 1 [0,2,3,4,5,52] [(52,.v (.agg (conL x (.slice A1 x.r.held.length c1)).toArray))] 152 [.agg (conL x (.slice A1 x.r.held.length c1)).toArray] (some 53) rfl (xc_r fun ww hw hf => ysTickConn_c x (.slice A1 x.r.held.length c1) ww (Own.sl (hf _ m1)) (by assumption) (by assumption) (by omega) ((cutW w B).heap.size) hw) ?_
 rintro ⟨⟨v32a,v32c⟩,⟨v33a,v33c⟩⟩
 have hbd34 : (tickConn x).1.r.held.length ≤ 1048576 ∧ (tickConn x).2.length ≤ 49 := tickConn_bd _  (by omega)
 have hbd34a := hbd34.1; have hbd34b := hbd34.2
 refine kEU [0,2,3,4,5] [] 1 ⟨44,conL (tickConn x).1 (.slice v32a ((tickConn x).1.r.held.length) v32c)⟩ ?_
 exact ⟨⟨((tickConn x).1,v32a,v32c),(by first | exact RB.write hrb _ | exact RB.tick hrb | exact RB.shut hrb | exact RB.read hrb _ | exact RB.recv hrb (by omega) _ | exact hrb)⟩,kPk [0,2,4,5,6] <| kF 2 0 [0,2,3,4,5]⟩
 have h31p := eqF h31
 refine kQ ?_
 refine kED [0,2,3,4,5,26,56] [(56,.v (.bool (y12 == 2)))] ?_
 refine kC (y12 == 2) (fun h35 => ?_) (fun h35 => ?_)
 have h35p := eqT h35
 refine kQ ?_
 refine kWD 1 [0,2,3,4,5,58] [(58,.v (.pointer (some ⟨g,0,none⟩)))] 110 [.pointer (some ⟨g,0,none⟩),.int .i64 2] (some 59) 0 rfl rfl hlo (l1Once_c_K hBw hap) ?_
 rintro ⟨y36,hy36⟩
 refine kED [0,2,3,4,5,59] [] ?_
 refine kC (y36) (fun h37 => ?_) (fun h37 => ?_)
 refine kG ?_
 refine kCD 1 [0,2,3,4,5,61] [(61,.v (.agg (conL x (.slice A1 x.r.held.length c1)).toArray))] 153 [.agg (conL x (.slice A1 x.r.held.length c1)).toArray] (some 62) rfl (xc_r fun ww hw hf => ysShut_c x (.slice A1 x.r.held.length c1) ww (Own.sl (hf _ m1)) (by assumption) (by assumption) (by omega) ((cutW w B).heap.size) hw) ?_
 rintro ⟨⟨v38a,v38c⟩,⟨v39a,v39c⟩⟩
 have hbd40 : (shut x).1.r.held.length ≤ 1048576 ∧ (shut x).2.length ≤ 49 := shut_bd _  (by omega)
 have hbd40a := hbd40.1; have hbd40b := hbd40.2
 refine kEU [0,2,3,4,5] [] 1 ⟨44,conL (shut x).1 (.slice v38a ((shut x).1.r.held.length) v38c)⟩ ?_
 exact ⟨⟨((shut x).1,v38a,v38c),(by first | exact RB.write hrb _ | exact RB.tick hrb | exact RB.shut hrb | exact RB.read hrb _ | exact RB.recv hrb (by omega) _ | exact hrb)⟩,kPk [0,2,4,5,6] <| kF 2 0 [0,2,3,4,5]⟩
 refine kK ?_
 exact ⟨⟨(x,A1,c1),(by first | exact RB.write hrb _ | exact RB.tick hrb | exact RB.shut hrb | exact RB.read hrb _ | exact RB.recv hrb (by omega) _ | exact hrb)⟩,kPk [1,0,2,3,4] <| kF 2 0 [0,2,3,4,5]⟩
 have h35p := eqF h35
 refine kQ ?_
 refine kED [0,2,3,4,5,65] [(65,.v (.bool (y12 == 3)))] ?_
 refine kC (y12 == 3) (fun h41 => ?_) (fun h41 => ?_)
 have h41p := eqT h41
 refine xe_region0 [true,false] (by kernel_rfl) (fun ρ σ => ?_)
 refine kTD [1] [69,0,2,3,4,5] 8 [(69,.v (.pointer (some ⟨g,0,none⟩)))] ?_
 refine kA [0,2] ⟨?_,?_⟩
 refine kSV 0 (.v (.agg (conL x (.slice A1 x.r.held.length c1)).toArray)) rfl ?_
 refine kA [2] ?_
 refine kSW 2 133 [.pointer (some ⟨g,0,none⟩),.int .i64 9] (some 70) 0 rfl rfl hlo (under_t (under_f rfl under_nil)) (l1Below_c_K hBw hap) ?_
 rintro ⟨y42,hy42⟩
 obtain ⟨hy420,hy421⟩ := hy42
 refine kA [3] ?_
 refine kSC 3 154 [.agg (conL x (.slice A1 x.r.held.length c1)).toArray,.int .i64 y42] (some 71) rfl (xc_r fun ww hw hf => ysReadConn_c x (.slice A1 x.r.held.length c1) y42 ww (Own.sl (hf _ m1)) (by assumption) (by assumption) (by omega) ((cutW w B).heap.size) hw) ?_
 rintro ⟨⟨v43a,v43c⟩,⟨v44a,v44c⟩⟩
 have hbd45 : (readConn x y42).1.r.held.length ≤ 1048576 ∧ (readConn x y42).2.2.length ≤ 1 := readConn_bd _ _  (by omega)
 have hbd45a := hbd45.1; have hbd45b := hbd45.2
 refine kTD [4,5,6,7] [72,0,2,3,4,5] 1 [(72,.v (.agg (conL (readConn x y42).1 (.slice v43a ((readConn x y42).1.r.held.length) v43c)).toArray))] ?_
 refine kA [8] ?_
 refine kSS 8 1 0 (conL (readConn x y42).1 (.slice v43a ((readConn x y42).1.r.held.length) v43c)) rfl ?_
 refine kZ ?_
 exact ⟨⟨((readConn x y42).1,v43a,v43c),(by first | exact RB.write hrb _ | exact RB.tick hrb | exact RB.shut hrb | exact RB.read hrb _ | exact RB.recv hrb (by omega) _ | exact hrb)⟩,kPk [0,2,4,5,6] <| kF 2 0 [0,2,3,4,5]⟩
 refine kSW 2 133 [.pointer (some ⟨g,0,none⟩),.int .i64 9] (some 70) 0 rfl rfl hlo (under_t (under_f rfl under_nil)) (l1Below_c_K hBw hap) ?_
 rintro ⟨y46,hy46⟩
 obtain ⟨hy460,hy461⟩ := hy46
 refine kA [0] ?_
 refine kSV 0 (.v (.agg (conL x (.slice A1 x.r.held.length c1)).toArray)) rfl ?_
 refine kA [3] ?_
 refine kSC 3 154 [.agg (conL x (.slice A1 x.r.held.length c1)).toArray,.int .i64 y46] (some 71) rfl (xc_r fun ww hw hf => ysReadConn_c x (.slice A1 x.r.held.length c1) y46 ww (Own.sl (hf _ m1)) (by assumption) (by assumption) (by omega) ((cutW w B).heap.size) hw) ?_
 rintro ⟨⟨v47a,v47c⟩,⟨v48a,v48c⟩⟩
 have hbd49 : (readConn x y46).1.r.held.length ≤ 1048576 ∧ (readConn x y46).2.2.length ≤ 1 := readConn_bd _ _  (by omega)
 have hbd49a := hbd49.1; have hbd49b := hbd49.2
 refine kTD [4,5,6,7] [72,0,2,3,4,5] 1 [(72,.v (.agg (conL (readConn x y46).1 (.slice v47a ((readConn x y46).1.r.held.length) v47c)).toArray))] ?_
 refine kA [8] ?_
 refine kSS 8 1 0 (conL (readConn x y46).1 (.slice v47a ((readConn x y46).1.r.held.length) v47c)) rfl ?_
 refine kZ ?_
 exact ⟨⟨((readConn x y46).1,v47a,v47c),(by first | exact RB.write hrb _ | exact RB.tick hrb | exact RB.shut hrb | exact RB.read hrb _ | exact RB.recv hrb (by omega) _ | exact hrb)⟩,kPk [0,2,4,5,6] <| kF 2 0 [0,2,3,4,5]⟩
 have h41p := eqF h41
 refine xe_region0 [true,false] (by kernel_rfl) (fun ρ σ => ?_)
 refine kTD [1] [29,0,2,3,4,5] 9 [(29,.v (.pointer (some ⟨g,0,none⟩)))] ?_
 refine kA [0,2] ⟨?_,?_⟩
 refine kSV 0 (.v (.agg (conL x (.slice A1 x.r.held.length c1)).toArray)) rfl ?_
 refine kA [2] ?_
 refine kSV 2 (.v (.agg (conL x (.slice A1 x.r.held.length c1)).toArray)) rfl ?_
 refine kA [3] ?_
 refine kSW 3 109 [.pointer (some ⟨g,0,none⟩),.agg (conL x (.slice A1 x.r.held.length c1)).toArray] (some 31) 0 rfl rfl hlo (under_t (under_f rfl under_nil)) (l19Segment_c_K hBw hap) ?_
 rintro ⟨y50,hy50⟩
 refine kA [4] ?_
 refine kSC 4 8 [.agg (conL x (.slice A1 x.r.held.length c1)).toArray,.agg (segL y50).toArray] (some 32) rfl (xc_r fun ww hw hf => ysReceive_c x (.slice A1 x.r.held.length c1) y50 ww (Own.sl (hf _ m1)) (by assumption) (by omega) (by assumption) (by omega) ((cutW w B).heap.size) hw) ?_
 rintro ⟨⟨v51a,v51c⟩,⟨v52a,v52c⟩⟩
 refine kTD [5,6,7,8] [33,0,2,3,4,5] 1 [(33,.v (.agg (conL (received x y50).1 (.slice v51a ((received x y50).1.r.held.length) v51c)).toArray))] ?_
 refine kA [9] ?_
 refine kSS 9 1 0 (conL (received x y50).1 (.slice v51a ((received x y50).1.r.held.length) v51c)) rfl ?_
 refine kZ ?_
 exact ⟨⟨((received x y50).1,v51a,v51c),(by first | exact RB.write hrb _ | exact RB.tick hrb | exact RB.shut hrb | exact RB.read hrb _ | exact RB.recv hrb (by omega) _ | exact hrb)⟩,kPk [0,2,4,5,6] <| kF 2 0 [0,2,3,4,5]⟩
 refine kSV 2 (.v (.agg (conL x (.slice A1 x.r.held.length c1)).toArray)) rfl ?_
 refine kA [0,3] ⟨?_,?_⟩
 refine kSV 0 (.v (.agg (conL x (.slice A1 x.r.held.length c1)).toArray)) rfl ?_
 refine kA [3] ?_
 refine kSW 3 109 [.pointer (some ⟨g,0,none⟩),.agg (conL x (.slice A1 x.r.held.length c1)).toArray] (some 31) 0 rfl rfl hlo (under_t (under_f rfl under_nil)) (l19Segment_c_K hBw hap) ?_
 rintro ⟨y53,hy53⟩
 refine kA [4] ?_
 refine kSC 4 8 [.agg (conL x (.slice A1 x.r.held.length c1)).toArray,.agg (segL y53).toArray] (some 32) rfl (xc_r fun ww hw hf => ysReceive_c x (.slice A1 x.r.held.length c1) y53 ww (Own.sl (hf _ m1)) (by assumption) (by omega) (by assumption) (by omega) ((cutW w B).heap.size) hw) ?_
 rintro ⟨⟨v54a,v54c⟩,⟨v55a,v55c⟩⟩
 refine kTD [5,6,7,8] [33,0,2,3,4,5] 1 [(33,.v (.agg (conL (received x y53).1 (.slice v54a ((received x y53).1.r.held.length) v54c)).toArray))] ?_
 refine kA [9] ?_
 refine kSS 9 1 0 (conL (received x y53).1 (.slice v54a ((received x y53).1.r.held.length) v54c)) rfl ?_
 refine kZ ?_
 exact ⟨⟨((received x y53).1,v54a,v54c),(by first | exact RB.write hrb _ | exact RB.tick hrb | exact RB.shut hrb | exact RB.read hrb _ | exact RB.recv hrb (by omega) _ | exact hrb)⟩,kPk [0,2,4,5,6] <| kF 2 0 [0,2,3,4,5]⟩
 refine kSW 3 109 [.pointer (some ⟨g,0,none⟩),.agg (conL x (.slice A1 x.r.held.length c1)).toArray] (some 31) 0 rfl rfl hlo (under_t (under_f rfl under_nil)) (l19Segment_c_K hBw hap) ?_
 rintro ⟨y56,hy56⟩
 refine kA [0] ?_
 refine kSV 0 (.v (.agg (conL x (.slice A1 x.r.held.length c1)).toArray)) rfl ?_
 refine kA [4] ?_
 refine kSC 4 8 [.agg (conL x (.slice A1 x.r.held.length c1)).toArray,.agg (segL y56).toArray] (some 32) rfl (xc_r fun ww hw hf => ysReceive_c x (.slice A1 x.r.held.length c1) y56 ww (Own.sl (hf _ m1)) (by assumption) (by omega) (by assumption) (by omega) ((cutW w B).heap.size) hw) ?_
 rintro ⟨⟨v57a,v57c⟩,⟨v58a,v58c⟩⟩
 refine kTD [5,6,7,8] [33,0,2,3,4,5] 1 [(33,.v (.agg (conL (received x y56).1 (.slice v57a ((received x y56).1.r.held.length) v57c)).toArray))] ?_
 refine kA [9] ?_
 refine kSS 9 1 0 (conL (received x y56).1 (.slice v57a ((received x y56).1.r.held.length) v57c)) rfl ?_
 refine kZ ?_
 exact ⟨⟨((received x y56).1,v57a,v57c),(by first | exact RB.write hrb _ | exact RB.tick hrb | exact RB.shut hrb | exact RB.read hrb _ | exact RB.recv hrb (by omega) _ | exact hrb)⟩,kPk [0,2,4,5,6] <| kF 2 0 [0,2,3,4,5]⟩
 rintro ⟨⟨x2,A4,c4⟩,hr2⟩
 try dsimp only
 try dsimp only at hr2
 refine kG ?_
 refine kRD 3 [0,2,3,4,5] [(5,.v (.int .i64 (IntKind.i64.wrap ((i : Int) + 1))))] ?_
 refine xl_nv [0,2,3,4,5] [(5,.v (.int .i64 (IntKind.i64.wrap ((i : Int) + 1))))] [(5,.v (.int .i64 ((i : Int) + 1)))] (by rw [show (IntKind.i64.wrap ((i : Int) + 1)) = ((i : Int) + 1) from wrap_id (by omega) (by omega)]) (by kernel_rfl) ?_
 refine kED [0,2,3,4,5] [] ?_
 exact ⟨⟨(i + 1,x2,A4,c4),⟨(by omega),hr2⟩⟩,kF 2 0 [0,2,3,4,5],by show (fun (i : Nat) (x : Con) (A1 : Option Addr) (c1 : Nat) => (y10).toNat - i) (i + 1) x2 A4 c4 < (y10).toNat - i; (dsimp only; omega)⟩
 have h11p := of_decide_eq_false h11
 have hge : ¬ (i : Int) < y10 := of_decide_eq_false h11
 refine xw_exit ?_
 refine kQ ?_
 refine kEU [2] [(2,.p 0 0)] 0 ⟨44,conL x (.slice A1 x.r.held.length c1)⟩ ?_
 refine kR ?_
 exact ⟨[.agg (conL x (.slice A1 x.r.held.length c1)).toArray],by kernel_rfl,fun w' hb hf ha => ⟨⟨(x,A1,c1),hrb.up⟩,rfl,hf (curF B g 137 (.slice A J.length cap) J.length) (by simp),newF_own (hf (ownF (cutW w B).heap.size (.slice A1 x.r.held.length c1) 2 (x.r.held.map pC)) (by simp)) (own_new ha (i := 0) (j := 1) (k := 4) rfl rfl rfl rfl (by decide) (by decide)),hgl,frF_chgd (hf (frF w (fun b => b = g)) (by simp)) hb rfl rfl rfl⟩⟩
theorem l19Bent_c (g : Nat) (J : List Int) (A : Option Addr) (cap : Nat) (w : World) (B : Nat) (hB : B ≤ w.heap.size) (hc : (curF B g 137 (.slice A J.length cap) J.length).p w) (hl : Sl w (.slice A J.length cap) 1 (J.map bR)) (hap : ¬ (slF (.slice A J.length cap) 1 (J.map bR)).blk g) (hn : J.length ≤ 1048576) : Calls Tryz.prog 108 #[.pointer (some ⟨g, 0, none⟩)] w fun e w' => ∃ y : {y : Con × (Option Addr × Nat) // RB 4 y.1.r}, e = .returned (.agg (conL y.1.1 (.slice y.1.2.1 y.1.1.r.held.length y.1.2.2)).toArray) ∧ (curF B g 137 (.slice A J.length cap) J.length).p w' ∧ (newF w.heap.size (.slice y.1.2.1 y.1.1.r.held.length y.1.2.2) 2 (y.1.1.r.held.map pC)).p w' ∧ g < w.heap.size ∧ Chgd (fun b => b = g) w w' := by
 have hq_code := Sl.capLe hl
 have hBw : B ≤ (cutW w B).heap.size := Nat.le_of_eq (cutW_size hB).symm
 have hlo : ∀ (ww : World) (b : Nat),(curF B g 137 (.slice A J.length cap) J.length).p ww → (curF B g 137 (.slice A J.length cap) J.length).blk b → (cutW w B).heap.size ≤ b := fun ww b h hb => Nat.le_trans (cutW_le w B) (cur_lo h hb)
 refine x_callsMA (args := [.pointer (some ⟨g,0,none⟩)]) (fn := Tryz.f108) [curF B g 137 (.slice A J.length cap) J.length,slF (.slice A J.length cap) 1 (J.map bR),frF w (fun b => b = g)] B Tryz.func108 rfl Tryz.ntmps108 rfl hB (by simp only [List.mem_cons,List.not_mem_nil,or_false,forall_eq_or_imp,forall_eq]; exact ⟨hc,hl,frF_start w _⟩) (apart_cur hap rfl) ?_
 have hgl : g < w.heap.size := (curF B g 137 (.slice A J.length cap) J.length).lt w g hc rfl
 refine kQ ?_
 refine kEF [0,2] ⟨[(0,.v (.pointer (some ⟨g,0,none⟩))),(2,.p 0 0)],[⟨44,conZ⟩],[],[curF B g 137 (.slice A J.length cap) J.length,slF (.slice A J.length cap) 1 (J.map bR),frF w (fun b => b = g)]⟩ ?_
 refine kQ ?_
 refine kWD 1 [0,2,4] [(4,.v (.pointer (some ⟨g,0,none⟩)))] 132 [.pointer (some ⟨g,0,none⟩)] (some 5) 0 rfl rfl hlo (xcm_curN fun ww hw hf => l19Conn_c g J A cap ww B (Nat.le_trans (by first | exact Nat.le_refl _ | exact Nat.le_of_eq (cutW_size hB).symm) hw) (hf (curF B g 137 (.slice A J.length cap) J.length) (by simp)) (hf _ m1) hap (by omega)) ?_
 rintro ⟨⟨b1m,b1a,b1c⟩,hb1⟩
 dsimp only at hb1
 have hb1n := hb1.1
 refine kEA [0,2,3] [(3,.p 1 0)] [⟨44,conL b1m (.slice b1a b1m.r.held.length b1c)⟩] ?_
 refine kS ?_
 refine kQ ?_
 refine kWD 1 [0,2,3,6] [(6,.v (.pointer (some ⟨g,0,none⟩)))] 133 [.pointer (some ⟨g,0,none⟩),.int .i64 16] (some 7) 1 rfl rfl hlo (l1Below_c_K hBw hap) ?_
 rintro ⟨y2,hy2⟩
 obtain ⟨hy20,hy21⟩ := hy2
 refine kED [0,2,3,7] [] ?_
 refine xw_block ?_
 refine kQ ?_
 refine kED [0,2,3,7,8] [(8,.v (.bool (y2 == 0)))] ?_
 refine kC (y2 == 0) (fun h3 => ?_) (fun h3 => ?_)
 have h3p := eqT h3
 refine kG ?_
 refine kWD 1 [2,3,10] [(10,.v (.pointer (some ⟨g,0,none⟩)))] 133 [.pointer (some ⟨g,0,none⟩),.int .i64 11] (some 11) 0 rfl rfl hlo (l1Below_c_K hBw hap) ?_
 rintro ⟨y4,hy4⟩
 obtain ⟨hy40,hy41⟩ := hy4
 refine kEU [2,3] [] 1 ⟨44,conL { b1m with state := IntKind.i64.wrap (y4 - 1) } (.slice b1a b1m.r.held.length b1c)⟩ ?_
 refine kQ ?_
 refine kEU [2] [(2,.p 0 0)] 0 ⟨44,conL { b1m with state := IntKind.i64.wrap (y4 - 1) } (.slice b1a b1m.r.held.length b1c)⟩ ?_
 refine kR ?_
 exact ⟨[.agg (conL { b1m with state := IntKind.i64.wrap (y4 - 1) } (.slice b1a b1m.r.held.length b1c)).toArray],by kernel_rfl,fun w' hb hf ha => ⟨⟨({ b1m with state := IntKind.i64.wrap (y4 - 1) },b1a,b1c),hb1⟩,rfl,hf (curF B g 137 (.slice A J.length cap) J.length) (by simp),newF_new (hf (newF (cutW w B).heap.size (.slice b1a b1m.r.held.length b1c) 2 (b1m.r.held.map pC)) (by simp)) (own_new ha (i := 1) (j := 0) (k := 3) rfl rfl rfl rfl (by decide) (by decide)),hgl,frF_chgd (hf (frF w (fun b => b = g)) (by simp)) hb rfl rfl rfl⟩⟩
 have h3p := eqF h3
 refine kQ ?_
 refine kED [0,2,3,7,14] [(14,.v (.bool (y2 == 1)))] ?_
 refine kC (y2 == 1) (fun h5 => ?_) (fun h5 => ?_)
 have h5p := eqT h5
 refine kG ?_
 refine kWD 1 [2,3,16] [(16,.v (.pointer (some ⟨g,0,none⟩)))] 134 [.pointer (some ⟨g,0,none⟩)] (some 17) 0 rfl rfl hlo (l17Bent_c_K hBw hap) ?_
 rintro ⟨y6,hy6⟩
 refine kEU [2,3] [] 1 ⟨44,conL { b1m with s := y6 } (.slice b1a b1m.r.held.length b1c)⟩ ?_
 refine kQ ?_
 refine kEU [2] [(2,.p 0 0)] 0 ⟨44,conL { b1m with s := y6 } (.slice b1a b1m.r.held.length b1c)⟩ ?_
 refine kR ?_
 exact ⟨[.agg (conL { b1m with s := y6 } (.slice b1a b1m.r.held.length b1c)).toArray],by kernel_rfl,fun w' hb hf ha => ⟨⟨({ b1m with s := y6 },b1a,b1c),hb1⟩,rfl,hf (curF B g 137 (.slice A J.length cap) J.length) (by simp),newF_new (hf (newF (cutW w B).heap.size (.slice b1a b1m.r.held.length b1c) 2 (b1m.r.held.map pC)) (by simp)) (own_new ha (i := 1) (j := 0) (k := 3) rfl rfl rfl rfl (by decide) (by decide)),hgl,frF_chgd (hf (frF w (fun b => b = g)) (by simp)) hb rfl rfl rfl⟩⟩
 have h5p := eqF h5
 refine kQ ?_
 refine kED [0,2,3,7,19] [(19,.v (.bool (y2 == 2)))] ?_
 refine kC (y2 == 2) (fun h7 => ?_) (fun h7 => ?_)
 have h7p := eqT h7
 refine kG ?_
 refine kWD 1 [2,3,21] [(21,.v (.pointer (some ⟨g,0,none⟩)))] 135 [.pointer (some ⟨g,0,none⟩)] (some 22) 0 rfl rfl hlo (xcm_curR fun ww hw hf => l18Bent_c g J A cap ww B (Nat.le_trans (by first | exact Nat.le_refl _ | exact Nat.le_of_eq (cutW_size hB).symm) hw) (hf (curF B g 137 (.slice A J.length cap) J.length) (by simp)) (hf _ m2) hap (by omega)) ?_
 rintro ⟨⟨b8m,b8a,b8c⟩,hb8⟩
 dsimp only at hb8
 have hb8n := hb8.1
 refine kEU [2,3] [] 1 ⟨44,conL { b1m with r := b8m } (.slice b8a b8m.held.length b8c)⟩ ?_
 refine kQ ?_
 refine kEU [2] [(2,.p 0 0)] 0 ⟨44,conL { b1m with r := b8m } (.slice b8a b8m.held.length b8c)⟩ ?_
 refine kR ?_
 exact ⟨[.agg (conL { b1m with r := b8m } (.slice b8a b8m.held.length b8c)).toArray],by kernel_rfl,fun w' hb hf ha => ⟨⟨({ b1m with r := b8m },b8a,b8c),hb8⟩,rfl,hf (curF B g 137 (.slice A J.length cap) J.length) (by simp),newF_row (hf (rowF (cutW w B).heap.size 85 2 (.slice b8a b8m.held.length b8c) (b8m.held.map pC)) (by simp)) (own_new ha (i := 0) (j := 1) (k := 4) rfl rfl rfl rfl (by decide) (by decide)),hgl,frF_chgd (hf (frF w (fun b => b = g)) (by simp)) hb rfl rfl rfl⟩⟩
 have h7p := eqF h7
 refine kQ ?_
 refine kED [0,2,3,7,24] [(24,.v (.bool (y2 == 3)))] ?_
 refine kC (y2 == 3) (fun h9 => ?_) (fun h9 => ?_)
 have h9p := eqT h9
 refine kG ?_
 refine kHD 6 [2,3,26,28,31] [(26,.v (.pointer (some ⟨g,0,none⟩))),(28,.v (.int .i64 b1m.most)),(31,.v (.int .i64 (IntKind.i64.wrap (b1m.most + 1))))] rfl (hv_build (e := 3) (K := 1) (bytes := 8) [.int .i64 (-1),.int .i64 0,.int .i64 b1m.most,.int .i64 (IntKind.i64.wrap (b1m.most + 1))] rfl (by kernel_rfl) (by kernel_rfl) (by kernel_rfl) (by kernel_rfl) (by kernel_rfl) (rs := ([(-1),0,b1m.most,IntKind.i64.wrap (b1m.most + 1)] : List Int).map intRow) rfl) ?_
 intro g10
 refine xl_know (φ := ¬ (slF (.slice (some ⟨g10,0,none⟩) 4 4) 1 (([(-1),0,b1m.most,IntKind.i64.wrap (b1m.most + 1)] : List Int).map intRow)).blk g) (fun _ _ _ _ hr => fun hb => hr.2.apart 0 1 (rowF (cutW w B).heap.size 3 1 (.slice (some ⟨g10,0,none⟩) 4 4) (([(-1),0,b1m.most,IntKind.i64.wrap (b1m.most + 1)] : List Int).map intRow)) (curF B g 137 (.slice A J.length cap) J.length) rfl rfl (by decide) rfl g (rowF_sblk hb) rfl) (fun hk11 => ?_)
 refine kWD 0 [2,3,26,32] [] 136 [.pointer (some ⟨g,0,none⟩),.slice (some ⟨g10,0,none⟩) 4 4] (some 33) 1 rfl rfl hlo (l1PickInt_c_K hBw hap (fun ww hw hf => (rowF_sl (hf _ m0))) hk11 (by simp)) ?_
 rintro ⟨y12,hy12⟩
 refine kEF [2,3] ⟨[(2,.p 0 0),(3,.p 1 0)],[⟨44,conZ⟩,⟨44,conL { b1m with window := y12 } (.slice b1a b1m.r.held.length b1c)⟩],[],[curF B g 137 (.slice A J.length cap) J.length,rowF (cutW w B).heap.size 3 1 (.slice (some ⟨g10,0,none⟩) 4 4) (([(-1),0,b1m.most,IntKind.i64.wrap (b1m.most + 1)] : List Int).map intRow),newF (cutW w B).heap.size (.slice b1a b1m.r.held.length b1c) 2 (b1m.r.held.map pC),slF (.slice A J.length cap) 1 (J.map bR),frF w (fun b => b = g)]⟩ ?_
 refine kQ ?_
 refine kEU [2] [(2,.p 0 0)] 0 ⟨44,conL { b1m with window := y12 } (.slice b1a b1m.r.held.length b1c)⟩ ?_
 refine kR ?_
 exact ⟨[.agg (conL { b1m with window := y12 } (.slice b1a b1m.r.held.length b1c)).toArray],by kernel_rfl,fun w' hb hf ha => ⟨⟨({ b1m with window := y12 },b1a,b1c),hb1⟩,rfl,hf (curF B g 137 (.slice A J.length cap) J.length) (by simp),newF_new (hf (newF (cutW w B).heap.size (.slice b1a b1m.r.held.length b1c) 2 (b1m.r.held.map pC)) (by simp)) (own_new ha (i := 2) (j := 0) (k := 4) rfl rfl rfl rfl (by decide) (by decide)),hgl,frF_chgd (hf (frF w (fun b => b = g)) (by simp)) hb rfl rfl rfl⟩⟩
 have h9p := eqF h9
 refine kQ ?_
 refine kED [0,2,3,7,35] [(35,.v (.bool (y2 == 4)))] ?_
 refine kC (y2 == 4) (fun h13 => ?_) (fun h13 => ?_)
 have h13p := eqT h13
 refine kG ?_
 refine kHD 1 [2,3,37] [(37,.v (.pointer (some ⟨g,0,none⟩)))] rfl (hv_build (e := 3) (K := 1) (bytes := 8) [.int .i64 (-1),.int .i64 0,.int .i64 3,.int .i64 4,.int .i64 5] rfl (by kernel_rfl) (by kernel_rfl) (by kernel_rfl) (by kernel_rfl) (by kernel_rfl) (rs := ([(-1),0,3,4,5] : List Int).map intRow) rfl) ?_
 intro g14
 refine xl_know (φ := ¬ (slF (.slice (some ⟨g14,0,none⟩) 5 5) 1 (([(-1),0,3,4,5] : List Int).map intRow)).blk g) (fun _ _ _ _ hr => fun hb => hr.2.apart 0 1 (rowF (cutW w B).heap.size 3 1 (.slice (some ⟨g14,0,none⟩) 5 5) (([(-1),0,3,4,5] : List Int).map intRow)) (curF B g 137 (.slice A J.length cap) J.length) rfl rfl (by decide) rfl g (rowF_sblk hb) rfl) (fun hk15 => ?_)
 refine kWS 0 [2,3,37,38] [(2,.p 0 0),(3,.p 1 0),(37,.v (.pointer (some ⟨g,0,none⟩))),(38,.v (.slice (some ⟨g14,0,none⟩) 5 5))] 136 [.pointer (some ⟨g,0,none⟩),.slice (some ⟨g14,0,none⟩) 5 5] (some 39) 1 rfl rfl hlo (l1PickInt_c_K hBw hap (fun ww hw hf => (rowF_sl (hf _ m0))) hk15 (by simp)) ?_
 rintro ⟨y16,hy16⟩
 refine kEU [2,3] [] 1 ⟨44,conL { b1m with timer := y16 } (.slice b1a b1m.r.held.length b1c)⟩ ?_
 refine kQ ?_
 refine kEU [2] [(2,.p 0 0)] 0 ⟨44,conL { b1m with timer := y16 } (.slice b1a b1m.r.held.length b1c)⟩ ?_
 refine kR ?_
 exact ⟨[.agg (conL { b1m with timer := y16 } (.slice b1a b1m.r.held.length b1c)).toArray],by kernel_rfl,fun w' hb hf ha => ⟨⟨({ b1m with timer := y16 },b1a,b1c),hb1⟩,rfl,hf (curF B g 137 (.slice A J.length cap) J.length) (by simp),newF_new (hf (newF (cutW w B).heap.size (.slice b1a b1m.r.held.length b1c) 2 (b1m.r.held.map pC)) (by simp)) (own_new ha (i := 2) (j := 0) (k := 4) rfl rfl rfl rfl (by decide) (by decide)),hgl,frF_chgd (hf (frF w (fun b => b = g)) (by simp)) hb rfl rfl rfl⟩⟩
 have h13p := eqF h13
 refine kQ ?_
 refine kED [0,2,3,7,41] [(41,.v (.bool (y2 == 5)))] ?_
 refine kC (y2 == 5) (fun h17 => ?_) (fun h17 => ?_)
 have h17p := eqT h17
 refine kG ?_
 refine kHS 1 [2,3,43] [(2,.p 0 0),(3,.p 1 0),(43,.v (.pointer (some ⟨g,0,none⟩)))] rfl (hv_build (e := 3) (K := 1) (bytes := 8) [.int .i64 (-1),.int .i64 0,.int .i64 3,.int .i64 4] rfl (by kernel_rfl) (by kernel_rfl) (by kernel_rfl) (by kernel_rfl) (by kernel_rfl) (rs := ([(-1),0,3,4] : List Int).map intRow) rfl) ?_
 intro g18
 refine xl_know (φ := ¬ (slF (.slice (some ⟨g18,0,none⟩) 4 4) 1 (([(-1),0,3,4] : List Int).map intRow)).blk g) (fun _ _ _ _ hr => fun hb => hr.2.apart 0 1 (rowF (cutW w B).heap.size 3 1 (.slice (some ⟨g18,0,none⟩) 4 4) (([(-1),0,3,4] : List Int).map intRow)) (curF B g 137 (.slice A J.length cap) J.length) rfl rfl (by decide) rfl g (rowF_sblk hb) rfl) (fun hk19 => ?_)
 refine kWD 0 [2,3,43,44] [] 136 [.pointer (some ⟨g,0,none⟩),.slice (some ⟨g18,0,none⟩) 4 4] (some 45) 1 rfl rfl hlo (l1PickInt_c_K hBw hap (fun ww hw hf => (rowF_sl (hf _ m0))) hk19 (by simp)) ?_
 rintro ⟨y20,hy20⟩
 refine kEU [2,3] [] 1 ⟨44,conL { b1m with tries := y20 } (.slice b1a b1m.r.held.length b1c)⟩ ?_
 refine kQ ?_
 refine kEU [2] [(2,.p 0 0)] 0 ⟨44,conL { b1m with tries := y20 } (.slice b1a b1m.r.held.length b1c)⟩ ?_
 refine kR ?_
 exact ⟨[.agg (conL { b1m with tries := y20 } (.slice b1a b1m.r.held.length b1c)).toArray],by kernel_rfl,fun w' hb hf ha => ⟨⟨({ b1m with tries := y20 },b1a,b1c),hb1⟩,rfl,hf (curF B g 137 (.slice A J.length cap) J.length) (by simp),newF_new (hf (newF (cutW w B).heap.size (.slice b1a b1m.r.held.length b1c) 2 (b1m.r.held.map pC)) (by simp)) (own_new ha (i := 2) (j := 0) (k := 4) rfl rfl rfl rfl (by decide) (by decide)),hgl,frF_chgd (hf (frF w (fun b => b = g)) (by simp)) hb rfl rfl rfl⟩⟩
 have h17p := eqF h17
 refine kQ ?_
 refine kES [0,2,3,7,47] [(0,.v (.pointer (some ⟨g,0,none⟩))),(2,.p 0 0),(3,.p 1 0),(7,.v (.int .i64 y2)),(47,.v (.bool (y2 == 6)))] ?_
 refine kC (y2 == 6) (fun h21 => ?_) (fun h21 => ?_)
 have h21p := eqT h21
 refine kG ?_
 refine kWD 1 [2,3,49] [(49,.v (.pointer (some ⟨g,0,none⟩)))] 137 [.pointer (some ⟨g,0,none⟩)] (some 50) 0 rfl rfl hlo (l8Bent_c_K hBw hap) ?_
 rintro ⟨y22,hy22⟩
 refine kEU [2,3] [] 1 ⟨44,conL { b1m with o := y22 } (.slice b1a b1m.r.held.length b1c)⟩ ?_
 refine kQ ?_
 refine kEU [2] [(2,.p 0 0)] 0 ⟨44,conL { b1m with o := y22 } (.slice b1a b1m.r.held.length b1c)⟩ ?_
 refine kR ?_
 exact ⟨[.agg (conL { b1m with o := y22 } (.slice b1a b1m.r.held.length b1c)).toArray],by kernel_rfl,fun w' hb hf ha => ⟨⟨({ b1m with o := y22 },b1a,b1c),hb1⟩,rfl,hf (curF B g 137 (.slice A J.length cap) J.length) (by simp),newF_new (hf (newF (cutW w B).heap.size (.slice b1a b1m.r.held.length b1c) 2 (b1m.r.held.map pC)) (by simp)) (own_new ha (i := 1) (j := 0) (k := 3) rfl rfl rfl rfl (by decide) (by decide)),hgl,frF_chgd (hf (frF w (fun b => b = g)) (by simp)) hb rfl rfl rfl⟩⟩
 have h21p := eqF h21
 refine kQ ?_
 refine kED [0,2,3,52] [(52,.v (.bool (y2 == 7)))] ?_
 refine kC (y2 == 7) (fun h23 => ?_) (fun h23 => ?_)
 have h23p := eqT h23
 refine kG ?_
 refine kWD 1 [2,3,54] [(54,.v (.pointer (some ⟨g,0,none⟩)))] 138 [.pointer (some ⟨g,0,none⟩)] (some 55) 0 rfl rfl hlo (l12Bent_c_K hBw hap) ?_
 rintro ⟨y24,hy24⟩
 refine kEU [2,3] [] 1 ⟨44,conL { b1m with t := y24 } (.slice b1a b1m.r.held.length b1c)⟩ ?_
 refine kQ ?_
 refine kEU [2] [(2,.p 0 0)] 0 ⟨44,conL { b1m with t := y24 } (.slice b1a b1m.r.held.length b1c)⟩ ?_
 refine kR ?_
 exact ⟨[.agg (conL { b1m with t := y24 } (.slice b1a b1m.r.held.length b1c)).toArray],by kernel_rfl,fun w' hb hf ha => ⟨⟨({ b1m with t := y24 },b1a,b1c),hb1⟩,rfl,hf (curF B g 137 (.slice A J.length cap) J.length) (by simp),newF_new (hf (newF (cutW w B).heap.size (.slice b1a b1m.r.held.length b1c) 2 (b1m.r.held.map pC)) (by simp)) (own_new ha (i := 1) (j := 0) (k := 3) rfl rfl rfl rfl (by decide) (by decide)),hgl,frF_chgd (hf (frF w (fun b => b = g)) (by simp)) hb rfl rfl rfl⟩⟩
 have h23p := eqF h23
 refine kK ?_
 refine kQ ?_
 refine kEU [2] [(2,.p 0 0)] 0 ⟨44,conL b1m (.slice b1a b1m.r.held.length b1c)⟩ ?_
 refine kR ?_
 exact ⟨[.agg (conL b1m (.slice b1a b1m.r.held.length b1c)).toArray],by kernel_rfl,fun w' hb hf ha => ⟨⟨(b1m,b1a,b1c),hb1⟩,rfl,hf (curF B g 137 (.slice A J.length cap) J.length) (by simp),newF_new (hf (newF (cutW w B).heap.size (.slice b1a b1m.r.held.length b1c) 2 (b1m.r.held.map pC)) (by simp)) (own_new ha (i := 1) (j := 0) (k := 3) rfl rfl rfl rfl (by decide) (by decide)),hgl,frF_chgd (hf (frF w (fun b => b = g)) (by simp)) hb rfl rfl rfl⟩⟩
theorem l20Args_c (J : List Int) (A : Option Addr) (cap : Nat) (w : World) (hl : Sl w (.slice A J.length cap) 1 (J.map bR)) (hn : J.length ≤ 1048576) : Calls Tryz.prog 56 #[.slice A J.length cap] w fun e w' => ∃ y : {y : (Con × Seg) × (Option Addr × Nat) // RB 4 y.1.1.r ∧ y.1.2.body.size ≤ 4096}, e = .returned (.tuple #[.agg (conL y.1.1.1 (.slice y.1.2.1 y.1.1.1.r.held.length y.1.2.2)).toArray, .agg (segL y.1.1.2).toArray]) ∧ (newF w.heap.size (.slice y.1.2.1 y.1.1.1.r.held.length y.1.2.2) 2 (y.1.1.1.r.held.map pC)).p w' ∧ Below w.heap.size w w' := by
 have hq_code := Sl.capLe hl
 refine x_callsA (args := [.slice A J.length cap]) (fn := Tryz.f56) [slF (.slice A J.length cap) 1 (J.map bR)] Tryz.func56 rfl Tryz.ntmps56 rfl (by simp only [List.mem_cons,List.not_mem_nil,or_false,forall_eq]; exact ⟨rfl,hl⟩) ?_
 refine kQ ?_
 refine kEF [0,2,3] ⟨[(0,.v (.slice A J.length cap)),(2,.p 0 0),(3,.p 1 0)],[⟨44,conZ⟩,⟨50,segZ⟩],[],[slF (.slice A J.length cap) 1 (J.map bR)]⟩ ?_
 refine kQ ?_
 refine kCD 1 [2,3,7] [(7,.v (.slice A J.length cap))] 107 [.slice A J.length cap] (some 8) rfl (xc_new fun ww hw hf => l1New_c J A cap ww (hf _ m0) (by omega)) ?_
 rintro ⟨g1,hapg1⟩
 refine kED [2,3,4] [(4,.v (.pointer (some ⟨g1,0,none⟩)))] ?_
 refine kQ ?_
 refine kWD 1 [2,3,4,9] [(9,.v (.pointer (some ⟨g1,0,none⟩)))] 108 [.pointer (some ⟨g1,0,none⟩)] (some 10) 0 rfl rfl (fun ww b h hb => cur_lo h hb) (xcm_curN fun ww hw hf => l19Bent_c g1 J A cap ww w.heap.size hw (hf (curF w.heap.size g1 137 (.slice A J.length cap) J.length) (by simp)) (hf _ m1) hapg1 (by omega)) ?_
 rintro ⟨⟨b2m,b2a,b2c⟩,hb2⟩
 dsimp only at hb2
 have hb2n := hb2.1
 have hb2m := hb2.hm; have hb2z := hb2.sz
 refine kEA [2,3,4,5] [(5,.p 2 0)] [⟨44,conL b2m (.slice b2a b2m.r.held.length b2c)⟩] ?_
 refine kQ ?_
 refine kWD 2 [2,3,4,5,11,12] [(11,.v (.pointer (some ⟨g1,0,none⟩))),(12,.v (.agg (conL b2m (.slice b2a b2m.r.held.length b2c)).toArray))] 109 [.pointer (some ⟨g1,0,none⟩),.agg (conL b2m (.slice b2a b2m.r.held.length b2c)).toArray] (some 13) 1 rfl rfl (fun ww b h hb => cur_lo h hb) (l19Segment_c_K (Nat.le_refl _) hapg1) ?_
 rintro ⟨y3,hy3⟩
 refine kEA [2,3,4,5,6] [(6,.p 3 0)] [⟨50,segL y3⟩] ?_
 refine kS ?_
 refine kQ ?_
 refine kWD 1 [2,3,4,5,6,14] [(14,.v (.pointer (some ⟨g1,0,none⟩)))] 110 [.pointer (some ⟨g1,0,none⟩),.int .i64 12] (some 15) 0 rfl rfl (fun ww b h hb => cur_lo h hb) (l1Once_c_K (Nat.le_refl _) hapg1) ?_
 rintro ⟨y4,hy4⟩
 refine kED [2,3,4,5,6,15] [] ?_
 refine kC (y4) (fun h5 => ?_) (fun h5 => ?_)
 refine kG ?_
 refine kWD 1 [2,3,5,6,16] [(16,.v (.pointer (some ⟨g1,0,none⟩)))] 111 [.pointer (some ⟨g1,0,none⟩)] (some 17) 0 rfl rfl (fun ww b h hb => cur_lo h hb) (l9Bent_c_K (Nat.le_refl _) hapg1) ?_
 rintro ⟨y6,hy6⟩
 refine kEU [2,3,5,6] [] 3 ⟨50,segL y6⟩ ?_
 refine kS ?_
 refine xe_region [false,false,true,true] (by kernel_rfl) (fun ρ σ => ?_)
 refine kTS [0,1] [19,18,2,3] 2 [(19,.v (.agg (segL y6).toArray)),(18,.v (.agg (conL b2m (.slice b2a b2m.r.held.length b2c)).toArray)),(2,.p 0 0),(3,.p 1 0)] ?_
 refine kA [2] ?_
 refine kSS 2 0 0 (conL b2m (.slice b2a b2m.r.held.length b2c)) rfl ?_
 refine kA [3] ?_
 refine kSS 3 1 0 (segL y6) rfl ?_
 refine kZ ?_
 refine kR ?_
 exact ⟨[.agg (conL b2m (.slice b2a b2m.r.held.length b2c)).toArray,.agg (segL y6).toArray],by kernel_rfl,fun w' hb hf ha => ⟨⟨((b2m,y6),b2a,b2c),⟨hb2,(by first | assumption | (dsimp only; assumption))⟩⟩,rfl,newF_new (hf (newF w.heap.size (.slice b2a b2m.r.held.length b2c) 2 (b2m.r.held.map pC)) (by simp)) (fun b hb => newF_lo (hf (newF w.heap.size (.slice b2a b2m.r.held.length b2c) 2 (b2m.r.held.map pC)) (by simp)) hb),hb⟩⟩
 refine kK ?_
 refine kS ?_
 refine xe_region [false,false,true,true] (by kernel_rfl) (fun ρ σ => ?_)
 refine kTD [0,1] [19,18,2,3] 2 [(19,.v (.agg (segL y3).toArray)),(18,.v (.agg (conL b2m (.slice b2a b2m.r.held.length b2c)).toArray))] ?_
 refine kA [2] ?_
 refine kSS 2 0 0 (conL b2m (.slice b2a b2m.r.held.length b2c)) rfl ?_
 refine kA [3] ?_
 refine kSS 3 1 0 (segL y3) rfl ?_
 refine kZ ?_
 refine kR ?_
 exact ⟨[.agg (conL b2m (.slice b2a b2m.r.held.length b2c)).toArray,.agg (segL y3).toArray],by kernel_rfl,fun w' hb hf ha => ⟨⟨((b2m,y3),b2a,b2c),⟨hb2,(by first | assumption | (dsimp only; assumption))⟩⟩,rfl,newF_new (hf (newF w.heap.size (.slice b2a b2m.r.held.length b2c) 2 (b2m.r.held.map pC)) (by simp)) (fun b hb => newF_lo (hf (newF w.heap.size (.slice b2a b2m.r.held.length b2c) 2 (b2m.r.held.map pC)) (by simp)) hb),hb⟩⟩

theorem drawHeard_c (J : List Int) (A : Option Addr) (cap : Nat) (w : World) (hl : Sl w (.slice A J.length cap) 1 (J.map bR)) (hn : J.length ≤ 1048576) : Calls Tryz.prog 26 #[.slice A J.length cap] w fun e w' => ∃ y : {y : (Con × Seg) × (Option Addr × Nat) // RB 4 y.1.1.r ∧ y.1.2.body.size ≤ 4096}, e = .returned (.tuple #[.agg (conL y.1.1.1 (.slice y.1.2.1 y.1.1.1.r.held.length y.1.2.2)).toArray, .agg (segL y.1.1.2).toArray]) ∧ (newF w.heap.size (.slice y.1.2.1 y.1.1.1.r.held.length y.1.2.2) 2 (y.1.1.1.r.held.map pC)).p w' ∧ Below w.heap.size w w' := by
 have hq_code := Sl.capLe hl
 refine x_callsA (args := [.slice A J.length cap]) (fn := Tryz.f26) [slF (.slice A J.length cap) 1 (J.map bR)] Tryz.func26 rfl Tryz.ntmps26 rfl (by simp only [List.mem_cons,List.not_mem_nil,or_false,forall_eq]; exact ⟨rfl,hl⟩) ?_
 refine kQ ?_
 refine kEF [0,2,3] ⟨[(0,.v (.slice A J.length cap)),(2,.p 0 0),(3,.p 1 0)],[⟨44,conZ⟩,⟨50,segZ⟩],[],[slF (.slice A J.length cap) 1 (J.map bR)]⟩ ?_
 refine kQ ?_
 refine kCD 1 [2,3,4] [(4,.v (.slice A J.length cap))] 56 [.slice A J.length cap] (some 5) rfl (xc_newF (α := {y : (Con × Seg) × (Option Addr × Nat) // RB 4 y.1.1.r ∧ y.1.2.body.size ≤ 4096}) (F := fun y => .tuple #[.agg #[.int .i64 y.1.1.1.t.ip,.int .i64 y.1.1.1.t.port,.int .i64 y.1.1.1.t.my,.int .i64 y.1.1.1.state,.int .i64 y.1.1.1.s.una,.string y.1.1.1.s.data,.int .i64 y.1.1.1.s.sent,.bool y.1.1.1.s.fin,.bool y.1.1.1.s.finSent,.bool y.1.1.1.s.done,.int .i64 y.1.1.1.r.next,.string y.1.1.1.r.data,.slice y.1.2.1 y.1.1.1.r.held.length y.1.2.2,.int .i64 y.1.1.1.r.fin,.bool y.1.1.1.r.done,.int .i64 y.1.1.1.window,.int .i64 y.1.1.1.most,.int .i64 y.1.1.1.o.mss,.int .i64 y.1.1.1.o.scale,.bool y.1.1.1.o.sack,.bool y.1.1.1.o.stamp,.int .i64 y.1.1.1.o.val,.int .i64 y.1.1.1.o.echo,.int .i64 y.1.1.1.timer,.int .i64 y.1.1.1.tries],.agg (segL y.1.1.2).toArray]) (v := fun y => .slice y.1.2.1 y.1.1.1.r.held.length y.1.2.2) (rs := fun y => y.1.1.1.r.held.map pC) fun ww hw hf => l20Args_c J A cap ww (hf _ m0) (by omega)) ?_
 rintro ⟨⟨⟨d1a,d1b⟩,d1A,d1C⟩,hd1⟩
 dsimp only at hd1
 refine kEV [2,3] [] [⟨44,conL d1a (.slice d1A d1a.r.held.length d1C)⟩,⟨50,segL d1b⟩] ?_
 refine kR ?_
 exact ⟨[.agg (conL d1a (.slice d1A d1a.r.held.length d1C)).toArray,.agg (segL d1b).toArray],by kernel_rfl,fun w' hb hf ha => ⟨⟨((d1a,d1b),d1A,d1C),hd1⟩,rfl,newF_new (hf (newF w.heap.size (.slice d1A d1a.r.held.length d1C) 2 (d1a.r.held.map pC)) (by simp)) (fun b hb => newF_lo (hf (newF w.heap.size (.slice d1A d1a.r.held.length d1C) 2 (d1a.r.held.map pC)) (by simp)) hb),hb⟩⟩

theorem arrStore_c (B gh gd bh bd W off : Nat) (sl : List Int) (x : Int) (w : World) (hB : B ≤ w.heap.size) (hF : (arrF B gh gd bh bd 122 57 4 5 W sl).p w) (hlen : W ≤ sl.length) (ho : off < W) (hx : 0 ≤ x ∧ x ≤ 255) : Calls Tryz.prog 116 #[.int .i64 (off : Int), .int .u8 x, .pointer (some ⟨gh, 0, none⟩), .pointer (some ⟨gd, 0, none⟩)] w fun e w' => e = .returned (.tuple #[]) ∧ (arrF B gh gd bh bd 122 57 4 5 W (stOne sl off x)).p w' ∧ Chgd (arrF B gh gd bh bd 122 57 4 5 W sl).blk w w' := by
 obtain ⟨hF4,hFa⟩ := hF
 simp only [List.mem_cons,List.not_mem_nil,or_false,forall_eq_or_imp,forall_eq] at hF4
 obtain ⟨hF1,hF2,hF3,hF5⟩ := hF4
 obtain ⟨z,hz⟩ : ∃ z,sl[off]? = some z := ⟨_,List.getElem?_eq_getElem (by omega)⟩
 refine x_callsMA (args := [.int .i64 (off : Int),.int .u8 x,.pointer (some ⟨gh,0,none⟩),.pointer (some ⟨gd,0,none⟩)]) (fn := Tryz.f116) [cellF B gh 122 [.slice (some ⟨bh,0,none⟩) W W],cellF B gd 57 [.slice (some ⟨bd,0,none⟩) W W],rowF B 4 1 (.slice (some ⟨bh,0,none⟩) W W) ((hvOf W sl).map boolRow),rowF B 5 1 (.slice (some ⟨bd,0,none⟩) W W) ((dtOf W sl).map bR),frF w (arrF B gh gd bh bd 122 57 4 5 W sl).blk] B Tryz.func116 rfl Tryz.ntmps116 rfl hB (by simp only [List.mem_cons,List.not_mem_nil,or_false,forall_eq_or_imp,forall_eq]; exact ⟨hF1,hF2,hF3,hF5,frF_start w _⟩) (apart_frS hFa fun g hg b hb => ⟨g,hg,hb⟩) ?_
 refine kQ ?_
 refine kOF 0 [0,1,2,3] ⟨[(0,.v (.int .i64 (off : Int))),(1,.v (.int .u8 x)),(2,.v (.pointer (some ⟨gh,0,none⟩))),(3,.v (.pointer (some ⟨gd,0,none⟩)))],[],[],[cellF B gh 122 [.slice (some ⟨bh,0,none⟩) W W],cellF B gd 57 [.slice (some ⟨bd,0,none⟩) W W],rowF B 4 1 (.slice (some ⟨bh,0,none⟩) W W) ((hvOf W sl).map boolRow),rowF B 5 1 (.slice (some ⟨bd,0,none⟩) W W) ((dtOf W sl).map bR),frF w (arrF B gh gd bh bd 122 57 4 5 W sl).blk]⟩ (.slice (some ⟨bh,0,none⟩) W W) rfl (fun _ _ _ ww hr => ldP_run (off := 0) (B := B) (g := gh) (T := 122) (cs := [.slice (some ⟨bh,0,none⟩) W W]) hr rfl (by kernel_rfl) (by simp) (by kernel_rfl)) ?_
 refine kOD 1 [0,1,2,3,6,7] [(7,.v (.int .i64 (off : Int)))] (.pointer (some ⟨bh,off * 1,none⟩)) rfl (fun _ _ _ ww hr => act_ix (kd := .i64) (T := 122) (e := 4) (K := 1) (g := bh) (N := W) (cap := W) off rfl hr.1 rfl rfl (by kernel_rfl) (by kernel_rfl) (by kernel_rfl) ho ww) ?_
 refine kOD 0 [0,1,2,3,8] [] (.bool (decide (0 ≤ z))) rfl (fun _ _ _ ww hr => ldR_run (po := 0) (j := off) (row := [.bool (decide (0 ≤ z))]) (rowF B 4 1 (.slice (some ⟨bh,0,none⟩) W W) ((hvOf W sl).map boolRow)) hr rfl (by kernel_rfl) (by simp) (by simp only [List.getElem?_map,hvOf_get ho hz]; rfl) (by kernel_rfl) rfl rfl rfl) ?_
 refine kED [0,1,2,3,10] [(10,.v (.bool (!(decide (0 ≤ z)))))] ?_
 refine kC (!(decide (0 ≤ z))) (fun h1 => ?_) (fun h1 => ?_)
 have h1n := not_t h1
 have hzz := of_decide_eq_false h1n
 refine kQ ?_
 refine kOD 0 [0,1,2,3] [] (.slice (some ⟨bh,0,none⟩) W W) rfl (fun _ _ _ ww hr => ldP_run (off := 0) (B := B) (g := gh) (T := 122) (cs := [.slice (some ⟨bh,0,none⟩) W W]) hr rfl (by kernel_rfl) (by simp) (by kernel_rfl)) ?_
 refine kOD 1 [0,1,3,11,12] [(12,.v (.int .i64 (off : Int)))] (.pointer (some ⟨bh,off * 1,none⟩)) rfl (fun _ _ _ ww hr => act_ix (kd := .i64) (T := 122) (e := 4) (K := 1) (g := bh) (N := W) (cap := W) off rfl hr.1 rfl rfl (by kernel_rfl) (by kernel_rfl) (by kernel_rfl) ho ww) ?_
 refine xl_hs 0 [0,1,3,13] ⟨[(0,.v (.int .i64 (off : Int))),(1,.v (.int .u8 x)),(3,.v (.pointer (some ⟨gd,0,none⟩))),(13,.v (.pointer (some ⟨bh,off * 1,none⟩)))],[],[],[cellF B gh 122 [.slice (some ⟨bh,0,none⟩) W W],cellF B gd 57 [.slice (some ⟨bd,0,none⟩) W W],rowF B 4 1 (.slice (some ⟨bh,0,none⟩) W W) ((hvOf W sl).map boolRow),rowF B 5 1 (.slice (some ⟨bd,0,none⟩) W W) ((dtOf W sl).map bR),frF w (arrF B gh gd bh bd 122 57 4 5 W sl).blk]⟩ (by kernel_rfl) rfl (by kernel_rfl) rfl (by kernel_rfl) (HSg.hs (hs_stR (g := bh) (B := B) (e := 4) (K := 1) (N := W) (cap := W) (rs := ((hvOf W sl).map boolRow)) (rs' := ((hvOf W sl).set off true).map boolRow) (v := (.bool true)) (i := 2) (off := off * 1) off 0 [.bool (decide (0 ≤ z))] (row' := [.bool true]) rfl rfl (by kernel_rfl) rfl (by kernel_rfl) (by kernel_rfl) (by kernel_rfl) (by kernel_rfl) (cutW_le w B) (by simp only [List.getElem?_map,hvOf_get ho hz]; rfl) (by kernel_rfl) rfl (by rw [List.map_set]; rfl))) ?_
 refine kED [0,1,3] [] ?_
 refine kG ?_
 refine kOD 0 [0,1,3] [] (.slice (some ⟨bd,0,none⟩) W W) rfl (fun _ _ _ ww hr => ldP_run (off := 0) (B := B) (g := gd) (T := 57) (cs := [.slice (some ⟨bd,0,none⟩) W W]) hr rfl (by kernel_rfl) (by simp) (by kernel_rfl)) ?_
 refine kOD 2 [14,15,16] [(15,.v (.int .i64 (off : Int))),(16,.v (.int .u8 x))] (.pointer (some ⟨bd,off * 1,none⟩)) rfl (fun _ _ _ ww hr => act_ix (kd := .i64) (T := 57) (e := 5) (K := 1) (g := bd) (N := W) (cap := W) off rfl hr.1 rfl rfl (by kernel_rfl) (by kernel_rfl) (by kernel_rfl) ho ww) ?_
 refine xl_hs 0 [16,17] ⟨[(16,.v (.int .u8 x)),(17,.v (.pointer (some ⟨bd,off * 1,none⟩)))],[],[],[rowF B 4 1 (.slice (some ⟨bh,0,none⟩) W W) (((hvOf W sl).set off true).map boolRow),cellF B gh 122 [.slice (some ⟨bh,0,none⟩) W W],cellF B gd 57 [.slice (some ⟨bd,0,none⟩) W W],rowF B 5 1 (.slice (some ⟨bd,0,none⟩) W W) ((dtOf W sl).map bR),frF w (arrF B gh gd bh bd 122 57 4 5 W sl).blk]⟩ (by kernel_rfl) rfl (by kernel_rfl) rfl (by kernel_rfl) (HSg.hs (hs_stR (g := bd) (B := B) (e := 5) (K := 1) (N := W) (cap := W) (rs := ((dtOf W sl).map bR)) (rs' := ((dtOf W sl).set off x).map bR) (v := (.int .u8 x)) (i := 3) (off := off * 1) off 0 [.int .u8 (max z 0)] (row' := [.int .u8 x]) rfl rfl (by kernel_rfl) rfl (by kernel_rfl) (by kernel_rfl) (by kernel_rfl) (by kernel_rfl) (cutW_le w B) (by simp only [List.getElem?_map,dtOf_get ho hz]; rfl) (by kernel_rfl) rfl (by rw [List.map_set]; rfl))) ?_
 refine kES [] [] ?_
 exact ⟨[],by kernel_rfl,fun w' hb hf ha => ⟨rfl,(by rw [stOne_free hz (by omega)]; unfold arrF; rw [← hvOf_set hx.1,← dtOf_set hx.1]; exact allF_pick [2,3,1,0] hf ha (by kernel_rfl) (by kernel_rfl)),frF_chgd (hf (frF w (arrF B gh gd bh bd 122 57 4 5 W sl).blk) (by simp)) hb rfl rfl rfl⟩⟩
 have h1n := not_f h1
 have hzz := of_decide_eq_true h1n
 refine kK ?_
 exact ⟨[],by kernel_rfl,fun w' hb hf ha => ⟨rfl,(by rw [stOne_full hz (by omega)]; exact allF_pick [0,1,2,3] hf ha (by kernel_rfl) (by kernel_rfl)),frF_chgd (hf (frF w (arrF B gh gd bh bd 122 57 4 5 W sl).blk) (by simp)) hb rfl rfl rfl⟩⟩
theorem yIndexB_c (l : List Bool) (lV : Value) (b : Bool) (w : World) (hl_lV : Sl w lV 1 (l.map boolRow))  : Calls Tryz.prog 145 #[lV, .bool b] w fun e w' => e = .returned (.int .i64 (idxL b l 0)) ∧ Below w.heap.size w w' := by
 obtain ⟨Al,Cl,hvl⟩ := hl_lV.form
 rw [List.length_map] at hvl; subst hvl
 have hnl := hl_lV.len; rw [List.length_map] at hnl
 have hql := Sl.capLe hl_lV
 refine x_calls (args := [.slice Al l.length Cl,.bool b]) (fn := Tryz.f145) [slF (.slice Al l.length Cl) 1 (l.map boolRow)] Tryz.func145 rfl Tryz.ntmps145 rfl (by simp only [List.mem_cons,List.not_mem_nil,or_false,forall_eq_or_imp,forall_eq]; exact ⟨rfl,hl_lV⟩) ?_
 refine kQ ?_
 refine kEF [0,1] ⟨[(0,.v (.slice Al l.length Cl)),(1,.v (.bool b))],[],[],[slF (.slice Al l.length Cl) 1 (l.map boolRow)]⟩ ?_
 refine kS ?_
 refine kQ ?_
 refine kED [0,1,7,8] [(7,.v (.int .i64 ((l.length : Nat) : Int))),(8,.v (.int .i64 0))] ?_
 refine xw_block ?_
 refine xw_loopW (α := {x : Nat // (fun (k : Nat) => k ≤ l.length ∧ idxL b l 0 = idxL b (l.drop k) k) x}) (fun x => (fun (k : Nat) => (⟨[(0,.v (.slice Al l.length Cl)),(1,.v (.bool b)),(7,.v (.int .i64 ((l.length : Nat) : Int))),(8,.v (.int .i64 (k : Int)))],[],[],[slF (.slice Al l.length Cl) 1 (l.map boolRow)]⟩ : St)) x.1) (fun x => l.length - x.1) ⟨(0),⟨Nat.zero_le _,rfl⟩⟩ (kF 0 0 [0,1,7,8]) ?_
 rintro ⟨k,hk,HK⟩
 try dsimp only
 try dsimp only at hk HK
 refine kQ ?_
 refine kED [0,1,7,8,9] [(9,.v (.bool (decide ((k : Int) < ((l.length : Nat) : Int)))))] ?_
 refine kS ?_
 refine kC (decide ((k : Int) < ((l.length : Nat) : Int))) (fun h1 => ?_) (fun h1 => ?_)
 have h1p := of_decide_eq_true h1
 have hlt : k < l.length := by simpa using h1
 obtain ⟨x,hx⟩ : ∃ x,l[k]? = some x := ⟨_,List.getElem?_eq_getElem hlt⟩
 refine kK ?_
 refine kS ?_
 refine xw_block ?_
 refine kQ ?_
 refine kED [0,1,5,7,8] [(5,.v (.int .i64 (k : Int)))] ?_
 refine kQ ?_
 refine xl_indexD (kd := .i64) (T := 122) (e := 4) (K := 1) 3 [0,1,5,7,8,11,12,13] [(11,.v (.bool b)),(12,.v (.slice Al l.length Cl)),(13,.v (.int .i64 (k : Int)))] k [.bool x] (slF (.slice Al l.length Cl) 1 (l.map boolRow)) (by kernel_rfl) rfl (by kernel_rfl) rfl rfl (by kernel_rfl) (by kernel_rfl) (by kernel_rfl) (by kernel_rfl) hlt (by simp) (fun w h => h) (fun b h => h) (by simp only [List.getElem?_map,hx]; rfl) ?_
 refine kED [0,1,5,7,8,16] [(16,.v (.bool (b == x)))] ?_
 refine kC (b == x) (fun h2 => ?_) (fun h2 => ?_)
 have h2p := eqT h2
 refine kQ ?_
 refine kES [4] [(4,.v (.int .i64 (k : Int)))] ?_
 refine kR ?_
 have hmod : idxL b l 0 = (k : Int) := by first | exact HK | (rw [HK,drop_cons_of hx,idxL,if_pos (by assumption)])
 exact ⟨[.int .i64 (k : Int)],by kernel_rfl,fun w' hb hf => by rw [hmod]; exact ⟨rfl,hb⟩⟩
 have h2p := eqF h2
 refine kK ?_
 refine kG ?_
 refine kRD 2 [0,1,7,8] [(8,.v (.int .i64 (IntKind.i64.wrap ((k : Int) + 1))))] ?_
 refine xl_nv [0,1,7,8] [(8,.v (.int .i64 (IntKind.i64.wrap ((k : Int) + 1))))] [(8,.v (.int .i64 ((k : Int) + 1)))] (by rw [show (IntKind.i64.wrap ((k : Int) + 1)) = ((k : Int) + 1) from wrap_id (by omega) (by omega)]) (by kernel_rfl) ?_
 refine kED [0,1,7,8] [] ?_
 exact ⟨⟨(k + 1),⟨by omega,by rw [HK,drop_cons_of hx,idxL,if_neg (by assumption)]⟩⟩,kF 0 0 [0,1,7,8],by show l.length - (k + 1) < l.length - k; omega⟩
 have h1p := of_decide_eq_false h1
 have hge : k = l.length := by simp at h1; omega
 subst hge; rw [List.drop_length] at HK
 refine xw_exit ?_
 refine kQ ?_
 refine kES [4] [(4,.v (.int .i64 (-1)))] ?_
 refine kR ?_
 have hmod : idxL b l 0 = (-1) := by first | exact HK | (rw [HK,drop_cons_of hx,idxL,if_pos (by assumption)])
 exact ⟨[.int .i64 (-1)],by kernel_rfl,fun w' hb hf => by rw [hmod]; exact ⟨rfl,hb⟩⟩
theorem yContainsB_c (l : List Bool) (lV : Value) (b : Bool) (w : World) (hl_lV : Sl w lV 1 (l.map boolRow))  : Calls Tryz.prog 118 #[lV, .bool b] w fun e w' => e = .returned (.bool (hasB l b)) ∧ Below w.heap.size w w' := by
 obtain ⟨Al,Cl,hvl⟩ := hl_lV.form
 rw [List.length_map] at hvl; subst hvl
 have hnl := hl_lV.len; rw [List.length_map] at hnl
 have hql := Sl.capLe hl_lV
 refine x_calls (args := [.slice Al l.length Cl,.bool b]) (fn := Tryz.f118) [slF (.slice Al l.length Cl) 1 (l.map boolRow)] Tryz.func118 rfl Tryz.ntmps118 rfl (by simp only [List.mem_cons,List.not_mem_nil,or_false,forall_eq_or_imp,forall_eq]; exact ⟨rfl,hl_lV⟩) ?_
 refine kQ ?_
 refine kEF [0,1] ⟨[(0,.v (.slice Al l.length Cl)),(1,.v (.bool b))],[],[],[slF (.slice Al l.length Cl) 1 (l.map boolRow)]⟩ ?_
 refine kQ ?_
 refine kCS 2 [5,6] [(5,.v (.slice Al l.length Cl)),(6,.v (.bool b))] 145 [.slice Al l.length Cl,.bool b] (some 7) rfl (xc_b fun ww hf => yIndexB_c l (.slice Al l.length Cl) b ww (hf _ m0) ) ?_
 intro _
 refine kES [4] [(4,.v (.bool (decide ((idxL b l 0) ≥ 0))))] ?_
 refine kR ?_
 have hmod : hasB l b = (decide ((idxL b l 0) ≥ 0)) := by first | exact (idx_has _ _ _).symm
 exact ⟨[.bool (decide ((idxL b l 0) ≥ 0))],by kernel_rfl,fun w' hb hf => by rw [hmod]; exact ⟨rfl,hb⟩⟩
theorem yiArrived_c (r : Rcv) (r_heldV : Value) (seq : Int) (text : ByteArray) (fin : Bool) (w : World) (hl_r_heldV : Sl w r_heldV 2 (r.held.map pC)) (hkn : r.held.length ≤ 1048576) (hm : ∀ p ∈ r.held, p.text.size ≤ 1048576) (hsz : r.data.size ≤ 4611686018427387904) (hts : text.size ≤ 4611686018427387904) (B : Nat) (hB : B ≤ w.heap.size) : Calls Tryz.prog 72 #[.agg (rcvL r r_heldV).toArray, .int .i64 seq, .string text, .bool fin] w fun e w' => XRs w w' e (α := Option Addr × Nat) (fun y => .agg (rcvL (arrived r seq text fin) (.slice y.1 ((arrived r seq text fin).held.length) y.2)).toArray) (fun y => [ownF B (.slice y.1 ((arrived r seq text fin).held.length) y.2) 2 ((arrived r seq text fin).held.map pC)]) := by
 obtain ⟨Arh,Crh,hvrh⟩ := hl_r_heldV.form
 rw [List.length_map] at hvrh; subst hvrh
 have hnrh := hl_r_heldV.len; rw [List.length_map] at hnrh
 have hqrh := Sl.capLe hl_r_heldV
 refine x_callsA (args := [.agg (rcvL r (.slice Arh r.held.length Crh)).toArray,.int .i64 seq,.string text,.bool fin]) (fn := Tryz.f72) [slF (.slice Arh r.held.length Crh) 2 (r.held.map pC)] Tryz.func72 rfl Tryz.ntmps72 rfl (by simp only [List.mem_cons,List.not_mem_nil,or_false,forall_eq_or_imp,forall_eq]; exact ⟨rfl,hl_r_heldV⟩) ?_
 refine kQ ?_
 refine kEF [1,2,3,4,8] ⟨[(1,.v (.int .i64 seq)),(2,.v (.string text)),(3,.v (.bool fin)),(4,.p 0 0),(8,.p 1 0)],[⟨41,rcvL r (.slice Arh r.held.length Crh)⟩,⟨41,rcvZ⟩],[],[slF (.slice Arh r.held.length Crh) 2 (r.held.map pC)]⟩ ?_
 refine kQ ?_
 refine kCD 1 [1,2,3,4,8,24] [(24,.v (.agg (rcvL r (.slice Arh r.held.length Crh)).toArray))] 98 [.agg (rcvL r (.slice Arh r.held.length Crh)).toArray] (some 25) rfl (xc_r fun ww hw hf => ycloneReceiver_c r (.slice Arh r.held.length Crh) ww (hf _ m0) (by assumption) w.heap.size hw) ?_
 rintro ⟨v1a,v1c⟩
 refine kEA [1,2,3,4,8,9] [(9,.p 2 0)] [⟨41,rcvL r (.slice v1a r.held.length v1c)⟩] ?_
 refine kS ?_
 refine kQ ?_
 refine kCD 1 [1,2,3,4,8,9,26] [(26,.v (.agg (rcvL r (.slice Arh r.held.length Crh)).toArray))] 60 [.agg (rcvL r (.slice Arh r.held.length Crh)).toArray] (some 27) rfl (xc_b fun ww hf => yiReceiverOk_c r (.slice Arh r.held.length Crh) ww (hf _ m1) (by assumption) (by omega)) ?_
 intro _
 refine kRD 2 [1,2,3,4,8,9,29] [(29,.v (.bool (!(rO r))))] ?_
 refine kP 29 (!(rO r)) (fun h2 => ?_) (fun h2 => ?_)
 have h2n := not_t h2
 refine kED [1,2,3,4,8,9,32] [(32,.v (.bool true))] ?_
 refine kT ?_
 refine kQ ?_
 refine kEU [8] [(8,.p 1 0)] 1 ⟨41,rcvL r (.slice v1a r.held.length v1c)⟩ ?_
 refine kR ?_
 have hmod : arrived r seq text fin = r := by first | exact arrived_over hrk (by assumption) (by rw [← hall,← hnf,hpc]; omega) | (unfold arrived; rw [if_neg (by grind)]; done) | (unfold arrived; rw [if_pos (by grind),← hall,← hnf,hpc,← hfp]; first | (rw [if_pos (by omega)]; done) | (rw [if_neg (by omega),if_pos (by first | omega | simp_all)]; done) | (rw [if_neg (by omega),if_neg (by first | omega | simp_all)]; done))
 exact ⟨[.agg (rcvL r (.slice v1a r.held.length v1c)).toArray],by kernel_rfl,fun w' hb hf ha => by rw [hmod]; exact xo1 ((v1a,v1c)) rfl rfl (pO (hf _ m0) hB) hb⟩
 have h2n := not_f h2
 have hrk := h2n
 obtain ⟨hf0,hf1,hf2,hf3,hf4,hheld⟩ := rok_facts h2n
 have hwb := windowOf_bd r
 have hN := slotsOf_len r
 obtain ⟨W,hW⟩ : ∃ W : Nat,wO r = (W : Int) := ⟨(wO r).toNat,by omega⟩
 have hW2 : W ≤ 32 := by omega
 have hM : (if r.fin = -1 then wO r else r.fin) ≤ (W : Int) := by split <;> omega
 refine kED [1,2,3,4,8,9,32] [(32,.v (.bool r.done))] ?_
 refine kC (r.done) (fun h3 => ?_) (fun h3 => ?_)
 refine kQ ?_
 refine kEU [8] [(8,.p 1 0)] 1 ⟨41,rcvL r (.slice v1a r.held.length v1c)⟩ ?_
 refine kR ?_
 have hmod : arrived r seq text fin = r := by first | exact arrived_over hrk (by assumption) (by rw [← hall,← hnf,hpc]; omega) | (unfold arrived; rw [if_neg (by grind)]; done) | (unfold arrived; rw [if_pos (by grind),← hall,← hnf,hpc,← hfp]; first | (rw [if_pos (by omega)]; done) | (rw [if_neg (by omega),if_pos (by first | omega | simp_all)]; done) | (rw [if_neg (by omega),if_neg (by first | omega | simp_all)]; done))
 exact ⟨[.agg (rcvL r (.slice v1a r.held.length v1c)).toArray],by kernel_rfl,fun w' hb hf ha => by rw [hmod]; exact xo1 ((v1a,v1c)) rfl rfl (pO (hf _ m0) hB) hb⟩
 refine kK ?_
 refine kQ ?_
 refine kCD 1 [1,2,3,4,8,9,34] [(34,.v (.agg (rcvL r (.slice Arh r.held.length Crh)).toArray))] 95 [.agg (rcvL r (.slice Arh r.held.length Crh)).toArray] (some 35) rfl (xc_b fun ww hf => iWindowOf_c r.next r.data r.held (.slice Arh r.held.length Crh) r.fin r.done ww (by omega)) ?_
 intro _
 refine kRD 1 [1,2,3,4,8,9,10] [(10,.v (.int .i64 (wO r)))] ?_
 refine xl_nv [1,2,3,4,8,9,10] [(10,.v (.int .i64 (wO r)))] [(10,.v (.int .i64 (W : Int)))] (by rw [show (wO r) = (W : Int) from hW]) (by kernel_rfl) ?_
 refine kED [1,2,3,4,8,9,10] [] ?_
 refine kQ ?_
 refine kHD 1 [1,2,3,4,8,9,10,36] [(36,.v (.int .i64 (W : Int)))] rfl (hv_make (kl := .i64) (kc := .i64) (e := 5) (K := 1) (bytes := 1) (m := W) (z := .int .u8 0) (rs := (List.replicate W 0).map bR) rfl (by kernel_rfl) (by kernel_rfl) (by kernel_rfl) (by kernel_rfl) (by (try simp only [List.length_map,List.length_append,List.length_cons,List.length_nil,List.length_take,List.length_drop,maxLen]); omega) (by (try simp only [List.length_map,List.length_append,List.length_cons,List.length_nil,List.length_take,List.length_drop,maxLen]); omega) (by rw [List.map_replicate]; rfl)) ?_
 intro g4
 refine kEF [1,2,3,4,8,9,10,11] ⟨[(1,.v (.int .i64 seq)),(2,.v (.string text)),(3,.v (.bool fin)),(4,.p 0 0),(8,.p 1 0),(9,.p 2 0),(10,.v (.int .i64 (W : Int))),(11,.p 3 0)],[⟨41,rcvL r (.slice Arh r.held.length Crh)⟩,⟨41,rcvZ⟩,⟨41,rcvL r (.slice v1a r.held.length v1c)⟩,⟨57,[.slice (some ⟨g4,0,none⟩) W W]⟩],[],[rowF w.heap.size 5 1 (.slice (some ⟨g4,0,none⟩) W W) ((List.replicate W 0).map bR),ownF w.heap.size (.slice v1a r.held.length v1c) 2 (r.held.map pC),slF (.slice Arh r.held.length Crh) 2 (r.held.map pC)]⟩ ?_
 refine kQ ?_
 refine kHD 1 [1,2,3,4,8,9,10,11,38] [(38,.v (.int .i64 (W : Int)))] rfl (hv_make (kl := .i64) (kc := .i64) (e := 4) (K := 1) (bytes := 1) (m := W) (z := .bool false) (rs := (List.replicate W false).map boolRow) rfl (by kernel_rfl) (by kernel_rfl) (by kernel_rfl) (by kernel_rfl) (by (try simp only [List.length_map,List.length_append,List.length_cons,List.length_nil,List.length_take,List.length_drop,maxLen]); omega) (by (try simp only [List.length_map,List.length_append,List.length_cons,List.length_nil,List.length_take,List.length_drop,maxLen]); omega) (by rw [List.map_replicate]; rfl)) ?_
 intro g5
 refine kEA [1,2,3,4,8,9,10,11,12] [(12,.p 4 0)] [⟨122,[.slice (some ⟨g5,0,none⟩) W W]⟩] ?_
 refine kS ?_
 refine xw_pinB 12 122 [.slice (some ⟨g5,0,none⟩) W W] [⟨41,rcvL r (.slice Arh r.held.length Crh)⟩,⟨41,rcvZ⟩,⟨41,rcvL r (.slice v1a r.held.length v1c)⟩,⟨57,[.slice (some ⟨g4,0,none⟩) W W]⟩] rfl (by kernel_rfl) (by kernel_rfl) ?_
 intro gh hgh hghn
 refine xw_pinB 11 57 [.slice (some ⟨g4,0,none⟩) W W] [⟨41,rcvL r (.slice Arh r.held.length Crh)⟩,⟨41,rcvZ⟩,⟨41,rcvL r (.slice v1a r.held.length v1c)⟩] rfl (by kernel_rfl) (by kernel_rfl) ?_
 intro gd hgd hgdn
 refine xw_wk (wk_pick [1,0,2,3,4,5] [cellF w.heap.size gh 122 [.slice (some ⟨g5,0,none⟩) W W],cellF w.heap.size gd 57 [.slice (some ⟨g4,0,none⟩) W W],rowF w.heap.size 4 1 (.slice (some ⟨g5,0,none⟩) W W) ((List.replicate W false).map boolRow),rowF w.heap.size 5 1 (.slice (some ⟨g4,0,none⟩) W W) ((List.replicate W 0).map bR),ownF w.heap.size (.slice v1a r.held.length v1c) 2 (r.held.map pC),slF (.slice Arh r.held.length Crh) 2 (r.held.map pC)] (by kernel_rfl) (by kernel_rfl)) ?_
 refine xw_turnF (fs' := [arrF w.heap.size gh gd g5 g4 122 57 4 5 W (List.replicate 33 (-1)),ownF w.heap.size (.slice v1a r.held.length v1c) 2 (r.held.map pC),slF (.slice Arh r.held.length Crh) 2 (r.held.map pC)]) (fun ρ σ w' h => by rw [arrF,hvOf_start (by omega),dtOf_start (by omega)]; exact all_in (hs := [ownF w.heap.size (.slice v1a r.held.length v1c) 2 (r.held.map pC),slF (.slice Arh r.held.length Crh) 2 (r.held.map pC)]) (own4 rfl rfl rfl rfl) ρ σ w' h) ?_
 refine kG ?_
 refine kOF 0 [1,2,3,4,8,9,10,11,12] ⟨[(1,.v (.int .i64 seq)),(2,.v (.string text)),(3,.v (.bool fin)),(4,.p 0 0),(8,.p 1 0),(9,.p 2 0),(10,.v (.int .i64 (W : Int))),(11,.v (.pointer (some ⟨gd,0,none⟩))),(12,.v (.pointer (some ⟨gh,0,none⟩)))],[⟨41,rcvL r (.slice Arh r.held.length Crh)⟩,⟨41,rcvZ⟩,⟨41,rcvL r (.slice v1a r.held.length v1c)⟩],[],[arrF w.heap.size gh gd g5 g4 122 57 4 5 W (List.replicate 33 (-1)),ownF w.heap.size (.slice v1a r.held.length v1c) 2 (r.held.map pC),slF (.slice Arh r.held.length Crh) 2 (r.held.map pC)]⟩ (.func (.func 116) #[] #[.pointer (some ⟨gh,0,none⟩),.pointer (some ⟨gd,0,none⟩)]) rfl (fun _ _ _ ww hr => act_mkf [.pointer (some ⟨gh,0,none⟩),.pointer (some ⟨gd,0,none⟩)] hr.1 rfl (by kernel_rfl) ww) ?_
 refine kED [1,2,3,4,8,9,10,11,12,13] [(13,.v (.func (.func 116) #[] #[.pointer (some ⟨gh,0,none⟩),.pointer (some ⟨gd,0,none⟩)]))] ?_
 refine kS ?_
 refine kQ ?_
 refine kED [1,2,3,4,8,9,10,11,12,13,42,43,44] [(42,.v (.slice Arh r.held.length Crh)),(43,.v (.int .i64 ((r.held.length : Nat) : Int))),(44,.v (.int .i64 0))] ?_
 refine xw_block ?_
 refine xw_loopW (α := {x : Nat × List Int × Int // (fun (i : Nat) (l2 : List Int) (e : Int) => i ≤ r.held.length ∧ l2.length = 33 ∧ slotsOf r = putHeld l2 (r.held.drop i) ∧ heldOk (if r.fin = -1 then wO r else r.fin) e (r.held.drop i) = true ∧ 0 ≤ e ∧ e ≤ (W : Int) ∧ (∀ j,e.toNat ≤ j → j < 33 → l2[j]? = some (-1))) x.1 x.2.1 x.2.2}) (fun x => (fun (i : Nat) (l2 : List Int) (e : Int) => (⟨[(1,.v (.int .i64 seq)),(2,.v (.string text)),(3,.v (.bool fin)),(4,.p 0 0),(8,.p 1 0),(9,.p 2 0),(10,.v (.int .i64 (W : Int))),(11,.v (.pointer (some ⟨gd,0,none⟩))),(12,.v (.pointer (some ⟨gh,0,none⟩))),(13,.v (.func (.func 116) #[] #[.pointer (some ⟨gh,0,none⟩),.pointer (some ⟨gd,0,none⟩)])),(42,.v (.slice Arh r.held.length Crh)),(43,.v (.int .i64 ((r.held.length : Nat) : Int))),(44,.v (.int .i64 (i : Int)))],[⟨41,rcvL r (.slice Arh r.held.length Crh)⟩,⟨41,rcvZ⟩,⟨41,rcvL r (.slice v1a r.held.length v1c)⟩],[],[arrF w.heap.size gh gd g5 g4 122 57 4 5 W l2,ownF w.heap.size (.slice v1a r.held.length v1c) 2 (r.held.map pC),slF (.slice Arh r.held.length Crh) 2 (r.held.map pC)]⟩ : St)) x.1.1 x.1.2.1 x.1.2.2) (fun x => (fun (i : Nat) (l2 : List Int) (e : Int) => r.held.length - i) x.1.1 x.1.2.1 x.1.2.2) ⟨(0,(List.replicate 33 (-1)),0),⟨Nat.zero_le _,(by simp),rfl,rok_held hrk,Int.le_refl _,(by dsimp only; omega),(fun j h1 h2 => by rw [List.getElem?_replicate,if_pos h2])⟩⟩ (kPk [0,1,2] <| kF 3 0 [1,2,3,4,8,9,10,11,12,13,42,43,44]) ?_
 rintro ⟨⟨i,l2,e⟩,hi,hl2,H2,hk,he0,heW,hfr⟩
 try dsimp only
 try dsimp only at hi hl2 H2 hk he0 heW hfr
 refine kQ ?_
 refine kED [1,2,3,4,8,9,10,11,12,13,42,43,44,45] [(45,.v (.bool (decide ((i : Int) < ((r.held.length : Nat) : Int)))))] ?_
 refine kS ?_
 refine kC (decide ((i : Int) < ((r.held.length : Nat) : Int))) (fun h6 => ?_) (fun h6 => ?_)
 have h6p := of_decide_eq_true h6
 have hlt2 : i < r.held.length := by simpa using h6
 obtain ⟨pp,hx⟩ : ∃ p,r.held[i]? = some p := ⟨_,List.getElem?_eq_getElem hlt2⟩
 have hin := hheld pp (List.mem_of_getElem? hx)
 obtain ⟨hst1,hst2,hst3⟩ := held_step hk hx
 have hpW : pp.off + (pp.text.size : Int) ≤ (W : Int) := Int.le_trans hst2 hM
 refine kK ?_
 refine kS ?_
 refine xw_block ?_
 refine kQ ?_
 refine xl_indexD (kd := .i64) (T := 39) (e := 85) (K := 2) 0 [1,2,3,4,8,9,10,11,12,13,42,43,44] [] i [.int .i64 pp.off,.string pp.text] (slF (.slice Arh r.held.length Crh) 2 (r.held.map pC)) (by kernel_rfl) rfl (by kernel_rfl) rfl rfl (by kernel_rfl) (by kernel_rfl) (by kernel_rfl) (by kernel_rfl) hlt2 (by simp) (fun w h => h) (fun b h => h) (by simp only [List.getElem?_map,hx]; rfl) ?_
 refine kEA [1,2,3,4,8,9,10,11,12,13,15,42,43,44] [(15,.p 3 0)] [⟨85,pceL pp⟩] ?_
 refine kQ ?_
 refine kED [1,2,3,4,8,9,10,11,12,13,15,42,43,44,50,51] [(50,.v (.int .i64 (pp.text.size : Int))),(51,.v (.int .i64 0))] ?_
 refine xw_block ?_
 refine xw_wk (wkf (s' := ⟨[(1,.v (.int .i64 seq)),(2,.v (.string text)),(3,.v (.bool fin)),(4,.p 0 0),(8,.p 1 0),(9,.p 2 0),(10,.v (.int .i64 (W : Int))),(11,.v (.pointer (some ⟨gd,0,none⟩))),(12,.v (.pointer (some ⟨gh,0,none⟩))),(13,.v (.func (.func 116) #[] #[.pointer (some ⟨gh,0,none⟩),.pointer (some ⟨gd,0,none⟩)])),(15,.p 3 0),(42,.v (.slice Arh r.held.length Crh)),(43,.v (.int .i64 ((r.held.length : Nat) : Int))),(44,.v (.int .i64 (i : Int))),(50,.v (.int .i64 (pp.text.size : Int))),(51,.v (.int .i64 0))],[⟨41,rcvL r (.slice Arh r.held.length Crh)⟩,⟨41,rcvZ⟩,⟨41,rcvL r (.slice v1a r.held.length v1c)⟩,⟨85,pceL pp⟩],[],[arrF w.heap.size gh gd g5 g4 122 57 4 5 W l2,ownF w.heap.size (.slice v1a r.held.length v1c) 2 (r.held.map pC),slF (.slice Arh r.held.length Crh) 2 (r.held.map pC)]⟩) 4 0 [1,2,3,4,8,9,10,11,12,13,15,42,43,44,50,51] (by kernel_rfl)) ?_
 refine xw_loopW (α := {x : Nat × List Int // (fun (q : Nat) (l3 : List Int) => q ≤ pp.text.size ∧ l3.length = 33 ∧ l3 = putText l2 pp.off.toNat pp.text q ∧ (∀ j,pp.off.toNat + q ≤ j → j < 33 → l3[j]? = some (-1))) x.1 x.2}) (fun x => (fun (q : Nat) (l3 : List Int) => (⟨[(1,.v (.int .i64 seq)),(2,.v (.string text)),(3,.v (.bool fin)),(4,.p 0 0),(8,.p 1 0),(9,.p 2 0),(10,.v (.int .i64 (W : Int))),(11,.v (.pointer (some ⟨gd,0,none⟩))),(12,.v (.pointer (some ⟨gh,0,none⟩))),(13,.v (.func (.func 116) #[] #[.pointer (some ⟨gh,0,none⟩),.pointer (some ⟨gd,0,none⟩)])),(15,.p 3 0),(42,.v (.slice Arh r.held.length Crh)),(43,.v (.int .i64 ((r.held.length : Nat) : Int))),(44,.v (.int .i64 (i : Int))),(50,.v (.int .i64 (pp.text.size : Int))),(51,.v (.int .i64 (q : Int)))],[⟨41,rcvL r (.slice Arh r.held.length Crh)⟩,⟨41,rcvZ⟩,⟨41,rcvL r (.slice v1a r.held.length v1c)⟩,⟨85,pceL pp⟩],[],[arrF w.heap.size gh gd g5 g4 122 57 4 5 W l3,ownF w.heap.size (.slice v1a r.held.length v1c) 2 (r.held.map pC),slF (.slice Arh r.held.length Crh) 2 (r.held.map pC)]⟩ : St)) x.1.1 x.1.2) (fun x => (fun (q : Nat) (l3 : List Int) => pp.text.size - q) x.1.1 x.1.2) ⟨(0,l2),⟨Nat.zero_le _,hl2,rfl,(fun j h1 h2 => hfr j (by omega) h2)⟩⟩ (kPk [0,1,2] <| kF 4 0 [1,2,3,4,8,9,10,11,12,13,15,42,43,44,50,51]) ?_
 rintro ⟨⟨q,l3⟩,hq,hl3,H3,hfr3⟩
 try dsimp only
 try dsimp only at hq hl3 H3 hfr3
 refine kQ ?_
 refine kED [1,2,3,4,8,9,10,11,12,13,15,42,43,44,50,51,52] [(52,.v (.bool (decide ((q : Int) < (pp.text.size : Int)))))] ?_
 refine kS ?_
 refine kC (decide ((q : Int) < (pp.text.size : Int))) (fun h7 => ?_) (fun h7 => ?_)
 have h7p := of_decide_eq_true h7
 have hlt3 : q < pp.text.size := by simpa using h7
 have hbr := byteAt_rng pp.text q
 have hfz := hfr3 (pp.off.toNat + q) (Nat.le_refl _) (by omega)
 refine kK ?_
 refine kS ?_
 refine xw_block ?_
 refine kQ ?_
 refine kED [1,2,3,4,8,9,10,11,12,13,15,16,42,43,44,50,51] [(16,.v (.int .i64 (q : Int)))] ?_
 refine xe_region0 [] (by kernel_rfl) (fun ρ σ => ?_)
 refine kTS [0,1,2,3,4,5,6,7] [61,60,58,54,1,2,3,4,8,9,10,11,12,13,15,42,43,44,50,51] 2 [(61,.v (.int .i64 (q : Int))),(60,.v (.string pp.text)),(58,.v (.int .i64 (IntKind.i64.wrap (pp.off + (q : Int))))),(54,.v (.func (.func 116) #[] #[.pointer (some ⟨gh,0,none⟩),.pointer (some ⟨gd,0,none⟩)])),(1,.v (.int .i64 seq)),(2,.v (.string text)),(3,.v (.bool fin)),(4,.p 0 0),(8,.p 1 0),(9,.p 2 0),(10,.v (.int .i64 (W : Int))),(11,.v (.pointer (some ⟨gd,0,none⟩))),(12,.v (.pointer (some ⟨gh,0,none⟩))),(13,.v (.func (.func 116) #[] #[.pointer (some ⟨gh,0,none⟩),.pointer (some ⟨gd,0,none⟩)])),(15,.p 3 0),(42,.v (.slice Arh r.held.length Crh)),(43,.v (.int .i64 ((r.held.length : Nat) : Int))),(44,.v (.int .i64 (i : Int))),(50,.v (.int .i64 (pp.text.size : Int))),(51,.v (.int .i64 (q : Int)))] ?_
 refine xe_nv [61,60,58,54,1,2,3,4,8,9,10,11,12,13,15,42,43,44,50,51] [(58,.v (.int .i64 (IntKind.i64.wrap (pp.off + (q : Int)))))] [(58,.v (.int .i64 ((pp.off.toNat + q : Nat) : Int)))] (by rw [show (IntKind.i64.wrap (pp.off + (q : Int))) = ((pp.off.toNat + q : Nat) : Int) from by rw [wrap_id (by omega) (by omega)]; omega]) (by kernel_rfl) ?_
 refine kX 8 (.int .u8 (byteAt pp.text q)) rfl (fun _ _ ww hA => act_tix (kd := .i64) (t := pp.text) q hA rfl rfl (by kernel_rfl) (by kernel_rfl) hlt3 ww) ?_
 refine kA [9] ?_
 refine xs_callWC 9 116 [.int .i64 ((pp.off.toNat + q : Nat) : Int),.int .u8 (byteAt pp.text q),.pointer (some ⟨gh,0,none⟩),.pointer (some ⟨gd,0,none⟩)] (some 63) 0 (arrF w.heap.size gh gd g5 g4 122 57 4 5 W l3) rfl (by kernel_rfl) rfl (by kernel_rfl) rfl rfl (fun ww b h hb => arrF_lo h hb) (by kernel_rfl) (under_t (under_t (under_t (under_t under_nil)))) rfl (xcm_arr fun ww hw hf => arrStore_c w.heap.size gh gd g5 g4 W (pp.off.toNat + q) l3 (byteAt pp.text q) ww hw (hf (arrF w.heap.size gh gd g5 g4 122 57 4 5 W l3) (by simp)) (by omega) (by omega) hbr) ?_
 intro _
 refine kZ ?_
 refine kG ?_
 refine kRD 2 [1,2,3,4,8,9,10,11,12,13,15,42,43,44,50,51] [(51,.v (.int .i64 (IntKind.i64.wrap ((q : Int) + 1))))] ?_
 refine xl_nv [1,2,3,4,8,9,10,11,12,13,15,42,43,44,50,51] [(51,.v (.int .i64 (IntKind.i64.wrap ((q : Int) + 1))))] [(51,.v (.int .i64 ((q : Int) + 1)))] (by rw [show (IntKind.i64.wrap ((q : Int) + 1)) = ((q : Int) + 1) from wrap_id (by omega) (by omega)]) (by kernel_rfl) ?_
 refine kED [1,2,3,4,8,9,10,11,12,13,15,42,43,44,50,51] [] ?_
 exact ⟨⟨(q + 1,(stOne l3 (pp.off.toNat + q) (byteAt pp.text q))),⟨hlt3,(by rw [stOne_len]; exact hl3),(by rw [stOne_free hfz (by decide),H3]; rfl),(fun j h1 h2 => by rw [stOne_far (by omega)]; exact hfr3 j (by omega) h2)⟩⟩,kF 4 0 [1,2,3,4,8,9,10,11,12,13,15,42,43,44,50,51],by show (fun (q : Nat) (l3 : List Int) => pp.text.size - q) (q + 1) (stOne l3 (pp.off.toNat + q) (byteAt pp.text q)) < pp.text.size - q; (dsimp only; omega)⟩
 have h7p := of_decide_eq_false h7
 have hq3 : q = pp.text.size := by simp at h7; omega
 refine xw_exit ?_
 refine kG ?_
 refine kRD 2 [1,2,3,4,8,9,10,11,12,13,42,43,44] [(44,.v (.int .i64 (IntKind.i64.wrap ((i : Int) + 1))))] ?_
 refine xl_nv [1,2,3,4,8,9,10,11,12,13,42,43,44] [(44,.v (.int .i64 (IntKind.i64.wrap ((i : Int) + 1))))] [(44,.v (.int .i64 ((i : Int) + 1)))] (by rw [show (IntKind.i64.wrap ((i : Int) + 1)) = ((i : Int) + 1) from wrap_id (by omega) (by omega)]) (by kernel_rfl) ?_
 refine kED [1,2,3,4,8,9,10,11,12,13,42,43,44] [] ?_
 exact ⟨⟨(i + 1,l3,(pp.off + (pp.text.size : Int))),⟨hlt2,hl3,(by rw [H2,drop_cons_of hx,putHeld,← hq3,← H3]),hst3,(by dsimp only; omega),hpW,(fun j h1 h2 => hfr3 j (by dsimp only at h1; omega) h2)⟩⟩,kF 3 0 [1,2,3,4,8,9,10,11,12,13,42,43,44],by show (fun (i : Nat) (l2 : List Int) (e : Int) => r.held.length - i) (i + 1) l3 (pp.off + (pp.text.size : Int)) < r.held.length - i; (dsimp only; omega)⟩
 have h6p := of_decide_eq_false h6
 have hi2 : i = r.held.length := by simp at h6; omega
 rw [hi2,List.drop_length] at H2; simp only [putHeld] at H2
 refine xw_exit ?_
 refine kS ?_
 refine kQ ?_
 refine kED [1,2,3,4,8,9,10,11,12,13,67,68] [(67,.v (.int .i64 (text.size : Int))),(68,.v (.int .i64 0))] ?_
 refine xw_block ?_
 refine xw_loopW (α := {x : Nat × List Int // (fun (i : Nat) (sl : List Int) => i ≤ text.size ∧ sl.length = 33 ∧ sl = textN r seq text (slotsOf r) i ∧ (∀ j,W ≤ j → j < 33 → sl[j]? = some (-1))) x.1 x.2}) (fun x => (fun (i : Nat) (sl : List Int) => (⟨[(1,.v (.int .i64 seq)),(2,.v (.string text)),(3,.v (.bool fin)),(4,.p 0 0),(8,.p 1 0),(9,.p 2 0),(10,.v (.int .i64 (W : Int))),(11,.v (.pointer (some ⟨gd,0,none⟩))),(12,.v (.pointer (some ⟨gh,0,none⟩))),(13,.v (.func (.func 116) #[] #[.pointer (some ⟨gh,0,none⟩),.pointer (some ⟨gd,0,none⟩)])),(67,.v (.int .i64 (text.size : Int))),(68,.v (.int .i64 (i : Int)))],[⟨41,rcvL r (.slice Arh r.held.length Crh)⟩,⟨41,rcvZ⟩,⟨41,rcvL r (.slice v1a r.held.length v1c)⟩],[],[arrF w.heap.size gh gd g5 g4 122 57 4 5 W sl,ownF w.heap.size (.slice v1a r.held.length v1c) 2 (r.held.map pC),slF (.slice Arh r.held.length Crh) 2 (r.held.map pC)]⟩ : St)) x.1.1 x.1.2) (fun x => (fun (i : Nat) (sl : List Int) => text.size - i) x.1.1 x.1.2) ⟨(0,l2),⟨Nat.zero_le _,hl2,H2.symm,(fun j h1 h2 => hfr j (by omega) h2)⟩⟩ (kPk [0,1,2] <| kF 3 0 [1,2,3,4,8,9,10,11,12,13,67,68]) ?_
 rintro ⟨⟨i,sl⟩,hi,hl,HS,hbe⟩
 try dsimp only
 try dsimp only at hi hl HS hbe
 refine kQ ?_
 refine kED [1,2,3,4,8,9,10,11,12,13,67,68,69] [(69,.v (.bool (decide ((i : Int) < (text.size : Int)))))] ?_
 refine kS ?_
 refine kC (decide ((i : Int) < (text.size : Int))) (fun h8 => ?_) (fun h8 => ?_)
 have h8p := of_decide_eq_true h8
 have hlti : i < text.size := by simpa using h8
 have hbr := byteAt_rng text i
 have hsq := seqAdd_in seq (i : Int)
 refine kK ?_
 refine kS ?_
 refine xw_block ?_
 refine kQ ?_
 refine kED [1,2,3,4,8,9,10,11,12,13,17,67,68] [(17,.v (.int .i64 (i : Int)))] ?_
 refine kS ?_
 refine xe_region0 [] (by kernel_rfl) (fun ρ σ => ?_)
 refine kTS [0,1,3,4] [75,72,71,1,2,3,4,8,9,10,11,12,13,17,67,68] 3 [(75,.v (.int .i64 r.next)),(72,.v (.int .i64 (i : Int))),(71,.v (.int .i64 seq)),(1,.v (.int .i64 seq)),(2,.v (.string text)),(3,.v (.bool fin)),(4,.p 0 0),(8,.p 1 0),(9,.p 2 0),(10,.v (.int .i64 (W : Int))),(11,.v (.pointer (some ⟨gd,0,none⟩))),(12,.v (.pointer (some ⟨gh,0,none⟩))),(13,.v (.func (.func 116) #[] #[.pointer (some ⟨gh,0,none⟩),.pointer (some ⟨gd,0,none⟩)])),(17,.v (.int .i64 (i : Int))),(67,.v (.int .i64 (text.size : Int))),(68,.v (.int .i64 (i : Int)))] ?_
 refine kA [2] ?_
 refine kSC 2 115 [.int .i64 seq,.int .i64 (i : Int)] (some 73) rfl (xc_s fun ww hf => iSeqAdd_c seq (i : Int) ww ) ?_
 intro _
 refine kA [5] ?_
 refine kSC 5 117 [.int .i64 (sA seq (i : Int)),.int .i64 r.next] (some 76) rfl (xc_s fun ww hf => ahead_c (sA seq (i : Int)) r.next ww ) ?_
 intro _
 refine xe_nv [76,73,75,72,71,1,2,3,4,8,9,10,11,12,13,17,67,68] [(76,.v (.int .i64 (((sA seq (i : Int)) - r.next) % 4294967296)))] [(76,.v (.int .i64 ((offN r seq i : Nat) : Int)))] (by rw [show (((sA seq (i : Int)) - r.next) % 4294967296) = ((offN r seq i : Nat) : Int) from offN_eq r seq i]) (by kernel_rfl) ?_
 refine kTS [6] [18,1,2,3,4,8,9,10,11,12,13,17,67,68] 0 [(18,.v (.int .i64 ((offN r seq i : Nat) : Int))),(1,.v (.int .i64 seq)),(2,.v (.string text)),(3,.v (.bool fin)),(4,.p 0 0),(8,.p 1 0),(9,.p 2 0),(10,.v (.int .i64 (W : Int))),(11,.v (.pointer (some ⟨gd,0,none⟩))),(12,.v (.pointer (some ⟨gh,0,none⟩))),(13,.v (.func (.func 116) #[] #[.pointer (some ⟨gh,0,none⟩),.pointer (some ⟨gd,0,none⟩)])),(17,.v (.int .i64 (i : Int))),(67,.v (.int .i64 (text.size : Int))),(68,.v (.int .i64 (i : Int)))] ?_
 refine kZ ?_
 refine kQ ?_
 refine kRD 4 [1,2,3,4,8,9,10,11,12,13,17,18,67,68,80] [(80,.v (.bool (decide (((offN r seq i : Nat) : Int) < (W : Int)))))] ?_
 refine kP 80 (decide (((offN r seq i : Nat) : Int) < (W : Int))) (fun h9 => ?_) (fun h9 => ?_)
 have h9p := of_decide_eq_true h9
 refine kRD 4 [1,2,3,4,8,9,10,11,12,13,17,18,67,68,80,84] [(80,.v (.bool true)),(84,.v (.bool (r.fin == (-1))))] ?_
 refine kP 84 (r.fin == (-1)) (fun h10 => ?_) (fun h10 => ?_)
 have h10p := eqT h10
 refine kED [1,2,3,4,8,9,10,11,12,13,17,18,67,68,90] [(90,.v (.bool true))] ?_
 refine kT ?_
 refine kG ?_
 refine kOD 4 [1,2,3,4,8,9,10,11,12,13,67,68,91,92,93,94] [(91,.v (.func (.func 116) #[] #[.pointer (some ⟨gh,0,none⟩),.pointer (some ⟨gd,0,none⟩)])),(92,.v (.int .i64 ((offN r seq i : Nat) : Int))),(93,.v (.string text)),(94,.v (.int .i64 (i : Int)))] (.int .u8 (byteAt text i)) rfl (fun _ _ _ ww hr => act_tix (kd := .i64) (t := text) i hr.1 rfl rfl (by kernel_rfl) (by kernel_rfl) hlti ww) ?_
 refine xl_callWC 0 [1,2,3,4,8,9,10,11,12,13,67,68,91,92,95] ⟨[(1,.v (.int .i64 seq)),(2,.v (.string text)),(3,.v (.bool fin)),(4,.p 0 0),(8,.p 1 0),(9,.p 2 0),(10,.v (.int .i64 (W : Int))),(11,.v (.pointer (some ⟨gd,0,none⟩))),(12,.v (.pointer (some ⟨gh,0,none⟩))),(13,.v (.func (.func 116) #[] #[.pointer (some ⟨gh,0,none⟩),.pointer (some ⟨gd,0,none⟩)])),(67,.v (.int .i64 (text.size : Int))),(68,.v (.int .i64 (i : Int))),(91,.v (.func (.func 116) #[] #[.pointer (some ⟨gh,0,none⟩),.pointer (some ⟨gd,0,none⟩)])),(92,.v (.int .i64 ((offN r seq i : Nat) : Int))),(95,.v (.int .u8 (byteAt text i)))],[⟨41,rcvL r (.slice Arh r.held.length Crh)⟩,⟨41,rcvZ⟩,⟨41,rcvL r (.slice v1a r.held.length v1c)⟩],[],[arrF w.heap.size gh gd g5 g4 122 57 4 5 W sl,ownF w.heap.size (.slice v1a r.held.length v1c) 2 (r.held.map pC),slF (.slice Arh r.held.length Crh) 2 (r.held.map pC)]⟩ 116 [.int .i64 ((offN r seq i : Nat) : Int),.int .u8 (byteAt text i),.pointer (some ⟨gh,0,none⟩),.pointer (some ⟨gd,0,none⟩)] (some 96) 0 (arrF w.heap.size gh gd g5 g4 122 57 4 5 W sl) (by kernel_rfl) rfl (by kernel_rfl) rfl (by kernel_rfl) rfl rfl (fun ww b h hb => arrF_lo h hb) (by kernel_rfl) (xcm_arr fun ww hw hf => arrStore_c w.heap.size gh gd g5 g4 W (offN r seq i) sl (byteAt text i) ww hw (hf (arrF w.heap.size gh gd g5 g4 122 57 4 5 W sl) (by simp)) (by omega) (by omega) hbr) ?_
 intro _
 refine kED [1,2,3,4,8,9,10,11,12,13,67,68] [] ?_
 refine kG ?_
 refine kRD 2 [1,2,3,4,8,9,10,11,12,13,67,68] [(68,.v (.int .i64 (IntKind.i64.wrap ((i : Int) + 1))))] ?_
 refine xl_nv [1,2,3,4,8,9,10,11,12,13,67,68] [(68,.v (.int .i64 (IntKind.i64.wrap ((i : Int) + 1))))] [(68,.v (.int .i64 ((i : Int) + 1)))] (by rw [show (IntKind.i64.wrap ((i : Int) + 1)) = ((i : Int) + 1) from wrap_id (by omega) (by omega)]) (by kernel_rfl) ?_
 refine kED [1,2,3,4,8,9,10,11,12,13,67,68] [] ?_
 exact ⟨⟨(i + 1,(stOne sl (offN r seq i) (byteAt text i))),⟨hlti,(by rw [stOne_len]; exact hl),(by rw [textN,← HS,text_yes (by rw [hW]; omega) (by omega)]),(fun j h1 h2 => by rw [stOne_far (by omega)]; exact hbe j h1 h2)⟩⟩,kF 3 0 [1,2,3,4,8,9,10,11,12,13,67,68],by show (fun (i : Nat) (sl : List Int) => text.size - i) (i + 1) (stOne sl (offN r seq i) (byteAt text i)) < text.size - i; (dsimp only; omega)⟩
 have h10p := eqF h10
 refine kED [1,2,3,4,8,9,10,11,12,13,17,18,67,68,90] [(90,.v (.bool (decide (((offN r seq i : Nat) : Int) < r.fin))))] ?_
 refine kC (decide (((offN r seq i : Nat) : Int) < r.fin)) (fun h11 => ?_) (fun h11 => ?_)
 have h11p := of_decide_eq_true h11
 refine kG ?_
 refine kOD 4 [1,2,3,4,8,9,10,11,12,13,67,68,91,92,93,94] [(91,.v (.func (.func 116) #[] #[.pointer (some ⟨gh,0,none⟩),.pointer (some ⟨gd,0,none⟩)])),(92,.v (.int .i64 ((offN r seq i : Nat) : Int))),(93,.v (.string text)),(94,.v (.int .i64 (i : Int)))] (.int .u8 (byteAt text i)) rfl (fun _ _ _ ww hr => act_tix (kd := .i64) (t := text) i hr.1 rfl rfl (by kernel_rfl) (by kernel_rfl) hlti ww) ?_
 refine xl_callWC 0 [1,2,3,4,8,9,10,11,12,13,67,68,91,92,95] ⟨[(1,.v (.int .i64 seq)),(2,.v (.string text)),(3,.v (.bool fin)),(4,.p 0 0),(8,.p 1 0),(9,.p 2 0),(10,.v (.int .i64 (W : Int))),(11,.v (.pointer (some ⟨gd,0,none⟩))),(12,.v (.pointer (some ⟨gh,0,none⟩))),(13,.v (.func (.func 116) #[] #[.pointer (some ⟨gh,0,none⟩),.pointer (some ⟨gd,0,none⟩)])),(67,.v (.int .i64 (text.size : Int))),(68,.v (.int .i64 (i : Int))),(91,.v (.func (.func 116) #[] #[.pointer (some ⟨gh,0,none⟩),.pointer (some ⟨gd,0,none⟩)])),(92,.v (.int .i64 ((offN r seq i : Nat) : Int))),(95,.v (.int .u8 (byteAt text i)))],[⟨41,rcvL r (.slice Arh r.held.length Crh)⟩,⟨41,rcvZ⟩,⟨41,rcvL r (.slice v1a r.held.length v1c)⟩],[],[arrF w.heap.size gh gd g5 g4 122 57 4 5 W sl,ownF w.heap.size (.slice v1a r.held.length v1c) 2 (r.held.map pC),slF (.slice Arh r.held.length Crh) 2 (r.held.map pC)]⟩ 116 [.int .i64 ((offN r seq i : Nat) : Int),.int .u8 (byteAt text i),.pointer (some ⟨gh,0,none⟩),.pointer (some ⟨gd,0,none⟩)] (some 96) 0 (arrF w.heap.size gh gd g5 g4 122 57 4 5 W sl) (by kernel_rfl) rfl (by kernel_rfl) rfl (by kernel_rfl) rfl rfl (fun ww b h hb => arrF_lo h hb) (by kernel_rfl) (xcm_arr fun ww hw hf => arrStore_c w.heap.size gh gd g5 g4 W (offN r seq i) sl (byteAt text i) ww hw (hf (arrF w.heap.size gh gd g5 g4 122 57 4 5 W sl) (by simp)) (by omega) (by omega) hbr) ?_
 intro _
 refine kED [1,2,3,4,8,9,10,11,12,13,67,68] [] ?_
 refine kG ?_
 refine kRD 2 [1,2,3,4,8,9,10,11,12,13,67,68] [(68,.v (.int .i64 (IntKind.i64.wrap ((i : Int) + 1))))] ?_
 refine xl_nv [1,2,3,4,8,9,10,11,12,13,67,68] [(68,.v (.int .i64 (IntKind.i64.wrap ((i : Int) + 1))))] [(68,.v (.int .i64 ((i : Int) + 1)))] (by rw [show (IntKind.i64.wrap ((i : Int) + 1)) = ((i : Int) + 1) from wrap_id (by omega) (by omega)]) (by kernel_rfl) ?_
 refine kED [1,2,3,4,8,9,10,11,12,13,67,68] [] ?_
 exact ⟨⟨(i + 1,(stOne sl (offN r seq i) (byteAt text i))),⟨hlti,(by rw [stOne_len]; exact hl),(by rw [textN,← HS,text_yes (by rw [hW]; omega) (by omega)]),(fun j h1 h2 => by rw [stOne_far (by omega)]; exact hbe j h1 h2)⟩⟩,kF 3 0 [1,2,3,4,8,9,10,11,12,13,67,68],by show (fun (i : Nat) (sl : List Int) => text.size - i) (i + 1) (stOne sl (offN r seq i) (byteAt text i)) < text.size - i; (dsimp only; omega)⟩
 have h11p := of_decide_eq_false h11
 refine kK ?_
 refine kG ?_
 refine kRD 2 [1,2,3,4,8,9,10,11,12,13,67,68] [(68,.v (.int .i64 (IntKind.i64.wrap ((i : Int) + 1))))] ?_
 refine xl_nv [1,2,3,4,8,9,10,11,12,13,67,68] [(68,.v (.int .i64 (IntKind.i64.wrap ((i : Int) + 1))))] [(68,.v (.int .i64 ((i : Int) + 1)))] (by rw [show (IntKind.i64.wrap ((i : Int) + 1)) = ((i : Int) + 1) from wrap_id (by omega) (by omega)]) (by kernel_rfl) ?_
 refine kED [1,2,3,4,8,9,10,11,12,13,67,68] [] ?_
 exact ⟨⟨(i + 1,sl),⟨hlti,hl,(by rw [textN,← HS,text_no (by rw [hW]; omega)]),hbe⟩⟩,kF 3 0 [1,2,3,4,8,9,10,11,12,13,67,68],by show (fun (i : Nat) (sl : List Int) => text.size - i) (i + 1) sl < text.size - i; (dsimp only; omega)⟩
 have h9p := of_decide_eq_false h9
 refine kED [1,2,3,4,8,9,10,11,12,13,17,18,67,68,90] [(90,.v (.bool false))] ?_
 refine kN ?_
 refine kK ?_
 refine kG ?_
 refine kRD 2 [1,2,3,4,8,9,10,11,12,13,67,68] [(68,.v (.int .i64 (IntKind.i64.wrap ((i : Int) + 1))))] ?_
 refine xl_nv [1,2,3,4,8,9,10,11,12,13,67,68] [(68,.v (.int .i64 (IntKind.i64.wrap ((i : Int) + 1))))] [(68,.v (.int .i64 ((i : Int) + 1)))] (by rw [show (IntKind.i64.wrap ((i : Int) + 1)) = ((i : Int) + 1) from wrap_id (by omega) (by omega)]) (by kernel_rfl) ?_
 refine kED [1,2,3,4,8,9,10,11,12,13,67,68] [] ?_
 exact ⟨⟨(i + 1,sl),⟨hlti,hl,(by rw [textN,← HS,text_no (by rw [hW]; omega)]),hbe⟩⟩,kF 3 0 [1,2,3,4,8,9,10,11,12,13,67,68],by show (fun (i : Nat) (sl : List Int) => text.size - i) (i + 1) sl < text.size - i; (dsimp only; omega)⟩
 have h8p := of_decide_eq_false h8
 have hti : i = text.size := by simp at h8; omega
 subst hti
 have hall : sl = allIn r seq text := HS
 obtain ⟨E,hE⟩ : ∃ E : Nat,(sA seq (text.size : Int) - r.next) % 4294967296 = ((E : Nat) : Int) ∧ offN r seq text.size = E := ⟨_,offN_eq r seq text.size,rfl⟩
 refine xw_exit ?_
 refine kS ?_
 refine xw_wk (wk_pick [0,1,2] [arrF w.heap.size gh gd g5 g4 122 57 4 5 W sl,ownF w.heap.size (.slice v1a r.held.length v1c) 2 (r.held.map pC),slF (.slice Arh r.held.length Crh) 2 (r.held.map pC)] (by kernel_rfl) (by kernel_rfl)) ?_
 refine xw_turnF (fs' := [cellF w.heap.size gh 122 [.slice (some ⟨g5,0,none⟩) W W],cellF w.heap.size gd 57 [.slice (some ⟨g4,0,none⟩) W W],rowF w.heap.size 4 1 (.slice (some ⟨g5,0,none⟩) W W) ((hvOf W sl).map boolRow),rowF w.heap.size 5 1 (.slice (some ⟨g4,0,none⟩) W W) ((dtOf W sl).map bR),ownF w.heap.size (.slice v1a r.held.length v1c) 2 (r.held.map pC),slF (.slice Arh r.held.length Crh) 2 (r.held.map pC)]) (fun ρ σ w' h => all_out (gs := [cellF w.heap.size gh 122 [.slice (some ⟨g5,0,none⟩) W W],cellF w.heap.size gd 57 [.slice (some ⟨g4,0,none⟩) W W],rowF w.heap.size 4 1 (.slice (some ⟨g5,0,none⟩) W W) ((hvOf W sl).map boolRow),rowF w.heap.size 5 1 (.slice (some ⟨g4,0,none⟩) W W) ((dtOf W sl).map bR)]) (hs := [ownF w.heap.size (.slice v1a r.held.length v1c) 2 (r.held.map pC),slF (.slice Arh r.held.length Crh) 2 (r.held.map pC)]) ρ σ w' h) ?_
 refine kG ?_
 refine kEF [1,2,3,4,8,9,10,11,12,19] ⟨[(1,.v (.int .i64 seq)),(2,.v (.string text)),(3,.v (.bool fin)),(4,.p 0 0),(8,.p 1 0),(9,.p 2 0),(10,.v (.int .i64 (W : Int))),(11,.v (.pointer (some ⟨gd,0,none⟩))),(12,.v (.pointer (some ⟨gh,0,none⟩))),(19,.p 3 0)],[⟨41,rcvL r (.slice Arh r.held.length Crh)⟩,⟨41,rcvZ⟩,⟨41,rcvL r (.slice v1a r.held.length v1c)⟩,⟨41,rcvL r (.slice Arh r.held.length Crh)⟩],[],[cellF w.heap.size gh 122 [.slice (some ⟨g5,0,none⟩) W W],cellF w.heap.size gd 57 [.slice (some ⟨g4,0,none⟩) W W],rowF w.heap.size 4 1 (.slice (some ⟨g5,0,none⟩) W W) ((hvOf W sl).map boolRow),rowF w.heap.size 5 1 (.slice (some ⟨g4,0,none⟩) W W) ((dtOf W sl).map bR),ownF w.heap.size (.slice v1a r.held.length v1c) 2 (r.held.map pC),slF (.slice Arh r.held.length Crh) 2 (r.held.map pC)]⟩ ?_
 refine kS ?_
 refine xe_region0 [] (by kernel_rfl) (fun ρ σ => ?_)
 refine kTS [0,1,2,4,5] [104,101,99,3,4,8,9,10,11,12,19] 3 [(104,.v (.int .i64 r.next)),(101,.v (.int .i64 (text.size : Int))),(99,.v (.int .i64 seq)),(3,.v (.bool fin)),(4,.p 0 0),(8,.p 1 0),(9,.p 2 0),(10,.v (.int .i64 (W : Int))),(11,.v (.pointer (some ⟨gd,0,none⟩))),(12,.v (.pointer (some ⟨gh,0,none⟩))),(19,.p 3 0)] ?_
 refine kA [3] ?_
 refine kSC 3 115 [.int .i64 seq,.int .i64 (text.size : Int)] (some 102) rfl (xc_s fun ww hf => iSeqAdd_c seq (text.size : Int) ww ) ?_
 intro _
 refine kA [6] ?_
 refine kSC 6 117 [.int .i64 (sA seq (text.size : Int)),.int .i64 r.next] (some 105) rfl (xc_s fun ww hf => ahead_c (sA seq (text.size : Int)) r.next ww ) ?_
 intro _
 refine xe_nv [105,102,104,101,99,3,4,8,9,10,11,12,19] [(105,.v (.int .i64 (((sA seq (text.size : Int)) - r.next) % 4294967296)))] [(105,.v (.int .i64 (E : Int)))] (by rw [show (((sA seq (text.size : Int)) - r.next) % 4294967296) = (E : Int) from hE.1]) (by kernel_rfl) ?_
 refine kTS [7] [20,3,4,8,9,10,11,12,19] 0 [(20,.v (.int .i64 (E : Int))),(3,.v (.bool fin)),(4,.p 0 0),(8,.p 1 0),(9,.p 2 0),(10,.v (.int .i64 (W : Int))),(11,.v (.pointer (some ⟨gd,0,none⟩))),(12,.v (.pointer (some ⟨gh,0,none⟩))),(19,.p 3 0)] ?_
 refine kZ ?_
 refine kS ?_
 refine xw_joinF (α := {zz : Int // (fun (fo : Int) => fo = finIn r seq text fin ∧ (-1 ≤ fo ∧ fo ≤ 32)) zz}) (fun zz => (fun (fo : Int) => (⟨[(4,.p 0 0),(8,.p 1 0),(9,.p 2 0),(10,.v (.int .i64 (W : Int))),(11,.v (.pointer (some ⟨gd,0,none⟩))),(12,.v (.pointer (some ⟨gh,0,none⟩))),(19,.p 3 0)],[⟨41,rcvL r (.slice Arh r.held.length Crh)⟩,⟨41,rcvZ⟩,⟨41,rcvL r (.slice v1a r.held.length v1c)⟩,⟨41,rcvL { r with fin := fo } (.slice Arh r.held.length Crh)⟩],[],[cellF w.heap.size gh 122 [.slice (some ⟨g5,0,none⟩) W W],cellF w.heap.size gd 57 [.slice (some ⟨g4,0,none⟩) W W],rowF w.heap.size 4 1 (.slice (some ⟨g5,0,none⟩) W W) ((hvOf W sl).map boolRow),rowF w.heap.size 5 1 (.slice (some ⟨g4,0,none⟩) W W) ((dtOf W sl).map bR),ownF w.heap.size (.slice v1a r.held.length v1c) 2 (r.held.map pC),slF (.slice Arh r.held.length Crh) 2 (r.held.map pC)]⟩ : St)) zz.1) ?_ ?_
 refine kQ ?_
 refine kRD 2 [4,8,9,10,11,12,19,20,107] [(107,.v (.bool fin))] ?_
 refine kP 107 (fin) (fun h12 => ?_) (fun h12 => ?_)
 refine kRD 5 [4,8,9,10,11,12,19,20,112] [(112,.v (.bool (r.fin == (-1))))] ?_
 refine kP 112 (r.fin == (-1)) (fun h13 => ?_) (fun h13 => ?_)
 have h13p := eqT h13
 refine kRD 5 [4,8,9,10,11,12,19,20,117] [(117,.v (.bool (decide ((E : Int) ≤ (W : Int)))))] ?_
 refine kP 117 (decide ((E : Int) ≤ (W : Int))) (fun h14 => ?_) (fun h14 => ?_)
 have h14p := of_decide_eq_true h14
 have hcf := hasB_free (W := W) (p := E) hbe hl hW2 (by omega)
 refine kOD 0 [4,8,9,10,11,12,19,20,117] [(117,.v (.bool true))] (.slice (some ⟨g5,0,none⟩) W W) rfl (fun _ _ _ ww hr => ldP_run (off := 0) (B := w.heap.size) (g := gh) (T := 122) (cs := [.slice (some ⟨g5,0,none⟩) W W]) hr rfl (by kernel_rfl) (by simp) (by kernel_rfl)) ?_
 refine kOD 1 [4,8,9,10,11,12,19,20,117,118,119] [(119,.v (.int .i64 (E : Int)))] (.slice (if W = E then (some ⟨g5,0,none⟩ : Option Addr) else (some ⟨g5,0,none⟩ : Option Addr).map (·.add (E * 1))) (W - E) (W - E)) rfl (fun _ _ _ ww hr => act_slVe (e := 4) (A := some ⟨g5,0,none⟩) (len := W) (cap := W) (K := 1) (k := .i64) (p' := (E : Int)) E hr.1 rfl (by kernel_rfl) (by kernel_rfl) (by kernel_rfl) (by kernel_rfl) rfl (by omega) ww) ?_
 refine kCD 0 [4,8,9,10,11,12,19,20,117,120] [] 118 [.slice (if W = E then (some ⟨g5,0,none⟩ : Option Addr) else (some ⟨g5,0,none⟩ : Option Addr).map (·.add (E * 1))) (W - E) (W - E),.bool true] (some 121) rfl (xc_b fun ww hf => yContainsB_c (((hvOf W sl).drop E).take (W - E)) (.slice (if W = E then (some ⟨g5,0,none⟩ : Option Addr) else (some ⟨g5,0,none⟩ : Option Addr).map (·.add (E * 1))) (W - E) (W - E)) true ww (Sl.partM (rowF_sl (hf _ m2)) E W (by omega) (by omega)) ) ?_
 intro _
 refine kED [4,8,9,10,11,12,19,20,123] [(123,.v (.bool (!(hasB (((hvOf W sl).drop E).take (W - E)) true))))] ?_
 refine kC (!(hasB (((hvOf W sl).drop E).take (W - E)) true)) (fun h15 => ?_) (fun h15 => ?_)
 have h15n := not_t h15
 refine kG ?_
 refine kEU [4,8,9,10,11,12,19] [] 3 ⟨41,rcvL { r with fin := (E : Int) } (.slice Arh r.held.length Crh)⟩ ?_
 exact ⟨⟨((E : Int)),⟨(by unfold finIn; rw [← hall,hW,hE.2]; first | (simp [*]; done) | grind),(by first | omega | (have := hf3; omega))⟩⟩,kF 4 0 [4,8,9,10,11,12,19]⟩
 have h15n := not_f h15
 refine kK ?_
 exact ⟨⟨(r.fin),⟨(by unfold finIn; rw [← hall,hW,hE.2]; first | (simp [*]; done) | grind),(by first | omega | (have := hf3; omega))⟩⟩,kF 4 0 [4,8,9,10,11,12,19]⟩
 have h14p := of_decide_eq_false h14
 refine kED [4,8,9,10,11,12,19,20,123] [(123,.v (.bool false))] ?_
 refine kN ?_
 refine kK ?_
 exact ⟨⟨(r.fin),⟨(by unfold finIn; rw [← hall,hW,hE.2]; first | (simp [*]; done) | grind),(by first | omega | (have := hf3; omega))⟩⟩,kF 4 0 [4,8,9,10,11,12,19]⟩
 have h13p := eqF h13
 refine kED [4,8,9,10,11,12,19,20,123] [(123,.v (.bool false))] ?_
 refine kN ?_
 refine kK ?_
 exact ⟨⟨(r.fin),⟨(by unfold finIn; rw [← hall,hW,hE.2]; first | (simp [*]; done) | grind),(by first | omega | (have := hf3; omega))⟩⟩,kF 4 0 [4,8,9,10,11,12,19]⟩
 refine kED [4,8,9,10,11,12,19,20,123] [(123,.v (.bool false))] ?_
 refine kN ?_
 refine kK ?_
 exact ⟨⟨(r.fin),⟨(by unfold finIn; rw [← hall,hW,hE.2]; first | (simp [*]; done) | grind),(by first | omega | (have := hf3; omega))⟩⟩,kF 4 0 [4,8,9,10,11,12,19]⟩
 rintro ⟨fo,hfo,hfb⟩
 try dsimp only
 try dsimp only at hfo hfb
 refine kQ ?_
 refine kED [4,8,9,10,11,12,19,21] [(21,.v (.int .i64 0))] ?_
 refine kS ?_
 refine xw_joinF (α := {zz : Nat // (fun (n2 : Nat) => n2 = filled sl ∧ n2 ≤ W ∧ (∀ x ∈ sl.take n2,0 ≤ x)) zz}) (fun zz => (fun (n2 : Nat) => (⟨[(4,.p 0 0),(8,.p 1 0),(9,.p 2 0),(10,.v (.int .i64 (W : Int))),(11,.v (.pointer (some ⟨gd,0,none⟩))),(12,.v (.pointer (some ⟨gh,0,none⟩))),(19,.p 3 0),(21,.v (.int .i64 (n2 : Int)))],[⟨41,rcvL r (.slice Arh r.held.length Crh)⟩,⟨41,rcvZ⟩,⟨41,rcvL r (.slice v1a r.held.length v1c)⟩,⟨41,rcvL { r with fin := fo } (.slice Arh r.held.length Crh)⟩],[],[cellF w.heap.size gh 122 [.slice (some ⟨g5,0,none⟩) W W],cellF w.heap.size gd 57 [.slice (some ⟨g4,0,none⟩) W W],rowF w.heap.size 4 1 (.slice (some ⟨g5,0,none⟩) W W) ((hvOf W sl).map boolRow),rowF w.heap.size 5 1 (.slice (some ⟨g4,0,none⟩) W W) ((dtOf W sl).map bR),ownF w.heap.size (.slice v1a r.held.length v1c) 2 (r.held.map pC),slF (.slice Arh r.held.length Crh) 2 (r.held.map pC)]⟩ : St)) zz.1) ?_ ?_
 refine xw_block ?_
 refine xw_loopW (α := {x : Nat // (fun (n2 : Nat) => n2 ≤ W ∧ (∀ x ∈ sl.take n2,0 ≤ x)) x}) (fun x => (fun (n2 : Nat) => (⟨[(4,.p 0 0),(8,.p 1 0),(9,.p 2 0),(10,.v (.int .i64 (W : Int))),(11,.v (.pointer (some ⟨gd,0,none⟩))),(12,.v (.pointer (some ⟨gh,0,none⟩))),(19,.p 3 0),(21,.v (.int .i64 (n2 : Int)))],[⟨41,rcvL r (.slice Arh r.held.length Crh)⟩,⟨41,rcvZ⟩,⟨41,rcvL r (.slice v1a r.held.length v1c)⟩,⟨41,rcvL { r with fin := fo } (.slice Arh r.held.length Crh)⟩],[],[cellF w.heap.size gh 122 [.slice (some ⟨g5,0,none⟩) W W],cellF w.heap.size gd 57 [.slice (some ⟨g4,0,none⟩) W W],rowF w.heap.size 4 1 (.slice (some ⟨g5,0,none⟩) W W) ((hvOf W sl).map boolRow),rowF w.heap.size 5 1 (.slice (some ⟨g4,0,none⟩) W W) ((dtOf W sl).map bR),ownF w.heap.size (.slice v1a r.held.length v1c) 2 (r.held.map pC),slF (.slice Arh r.held.length Crh) 2 (r.held.map pC)]⟩ : St)) x.1) (fun x => (fun (n2 : Nat) => W - n2) x.1) ⟨(0),⟨Nat.zero_le _,(by simp)⟩⟩ (kF 4 0 [4,8,9,10,11,12,19,21]) ?_
 rintro ⟨n2,hn2,hps⟩
 try dsimp only
 try dsimp only at hn2 hps
 refine kS ?_
 refine kQ ?_
 refine kRD 4 [4,8,9,10,11,12,19,21,129] [(129,.v (.bool (decide ((n2 : Int) < (W : Int)))))] ?_
 refine kP 129 (decide ((n2 : Int) < (W : Int))) (fun h16 => ?_) (fun h16 => ?_)
 have h16p := of_decide_eq_true h16
 have hlt2 : n2 < W := by simp at h16; omega
 obtain ⟨y,hy⟩ : ∃ y,sl[n2]? = some y := ⟨_,List.getElem?_eq_getElem (by omega)⟩
 refine kOD 0 [4,8,9,10,11,12,19,21,129] [(129,.v (.bool true))] (.slice (some ⟨g5,0,none⟩) W W) rfl (fun _ _ _ ww hr => ldP_run (off := 0) (B := w.heap.size) (g := gh) (T := 122) (cs := [.slice (some ⟨g5,0,none⟩) W W]) hr rfl (by kernel_rfl) (by simp) (by kernel_rfl)) ?_
 refine kOD 1 [4,8,9,10,11,12,19,21,129,130,131] [(131,.v (.int .i64 (n2 : Int)))] (.pointer (some ⟨g5,n2 * 1,none⟩)) rfl (fun _ _ _ ww hr => act_ix (kd := .i64) (T := 122) (e := 4) (K := 1) (g := g5) (N := W) (cap := W) n2 rfl hr.1 rfl rfl (by kernel_rfl) (by kernel_rfl) (by kernel_rfl) hlt2 ww) ?_
 refine kOD 0 [4,8,9,10,11,12,19,21,129,132] [] (.bool (decide (0 ≤ y))) rfl (fun _ _ _ ww hr => ldR_run (po := 0) (j := n2) (row := [.bool (decide (0 ≤ y))]) (rowF w.heap.size 4 1 (.slice (some ⟨g5,0,none⟩) W W) ((hvOf W sl).map boolRow)) hr rfl (by kernel_rfl) (by simp) (by simp only [List.getElem?_map,hvOf_get hlt2 hy]; rfl) (by kernel_rfl) rfl rfl rfl) ?_
 refine kED [4,8,9,10,11,12,19,21,134] [(134,.v (.bool (decide (0 ≤ y))))] ?_
 refine kC (decide (0 ≤ y)) (fun h17 => ?_) (fun h17 => ?_)
 have h17p := of_decide_eq_true h17
 have hyp := of_decide_eq_true h17
 refine kK ?_
 refine xw_block ?_
 refine kG ?_
 refine kRD 3 [4,8,9,10,11,12,19,21] [(21,.v (.int .i64 (IntKind.i64.wrap ((n2 : Int) + 1))))] ?_
 refine xl_nv [4,8,9,10,11,12,19,21] [(21,.v (.int .i64 (IntKind.i64.wrap ((n2 : Int) + 1))))] [(21,.v (.int .i64 ((n2 : Int) + 1)))] (by rw [show (IntKind.i64.wrap ((n2 : Int) + 1)) = ((n2 : Int) + 1) from wrap_id (by omega) (by omega)]) (by kernel_rfl) ?_
 refine kED [4,8,9,10,11,12,19,21] [] ?_
 exact ⟨⟨(n2 + 1),⟨(by (try dsimp only); omega),(take_pos hps hy (by omega))⟩⟩,kF 4 0 [4,8,9,10,11,12,19,21],by show (fun (n2 : Nat) => W - n2) (n2 + 1) < W - n2; (dsimp only; omega)⟩
 have h17p := of_decide_eq_false h17
 have hyp := of_decide_eq_false h17
 refine xw_exit ?_
 exact ⟨⟨(n2),⟨(by first | exact (filled_stop (k := n2) (by omega) hps (fun z hz => by rw [hy] at hz; simp only [Option.some.injEq] at hz; omega)).symm | exact (filled_stop (k := n2) (by omega) hps (fun z hz => by rw [hbe n2 (by omega) (by omega)] at hz; simp only [Option.some.injEq] at hz; omega)).symm),hn2,hps⟩⟩,kF 4 0 [4,8,9,10,11,12,19,21]⟩
 have h16p := of_decide_eq_false h16
 have hge2 : n2 = W := by simp at h16; omega
 refine kED [4,8,9,10,11,12,19,21,134] [(134,.v (.bool false))] ?_
 refine kN ?_
 refine xw_exit ?_
 exact ⟨⟨(n2),⟨(by first | exact (filled_stop (k := n2) (by omega) hps (fun z hz => by rw [hy] at hz; simp only [Option.some.injEq] at hz; omega)).symm | exact (filled_stop (k := n2) (by omega) hps (fun z hz => by rw [hbe n2 (by omega) (by omega)] at hz; simp only [Option.some.injEq] at hz; omega)).symm),hn2,hps⟩⟩,kF 4 0 [4,8,9,10,11,12,19,21]⟩
 rintro ⟨n2,hnf,hn2,hps⟩
 try dsimp only
 try dsimp only at hnf hn2 hps
 refine kS ?_
 refine xw_join ⟨[(4,.p 0 0),(8,.p 1 0),(9,.p 2 0),(10,.v (.int .i64 (W : Int))),(11,.v (.pointer (some ⟨gd,0,none⟩))),(12,.v (.pointer (some ⟨gh,0,none⟩))),(19,.p 3 0),(21,.v (.int .i64 (n2 : Int)))],[⟨41,rcvL r (.slice Arh r.held.length Crh)⟩,⟨41,rcvZ⟩,⟨41,rcvL r (.slice v1a r.held.length v1c)⟩,⟨41,rcvL { r with data := r.data ++ (bstr (sl.take n2)),fin := fo } (.slice Arh r.held.length Crh)⟩],[],[cellF w.heap.size gh 122 [.slice (some ⟨g5,0,none⟩) W W],cellF w.heap.size gd 57 [.slice (some ⟨g4,0,none⟩) W W],rowF w.heap.size 4 1 (.slice (some ⟨g5,0,none⟩) W W) ((hvOf W sl).map boolRow),rowF w.heap.size 5 1 (.slice (some ⟨g4,0,none⟩) W W) ((dtOf W sl).map bR),ownF w.heap.size (.slice v1a r.held.length v1c) 2 (r.held.map pC),slF (.slice Arh r.held.length Crh) 2 (r.held.map pC)]⟩ ?_ ?_
 refine xws_start ?_
 refine xws_cell (B := w.heap.size) (g := gd) (T := 57) (cs := [.slice (some ⟨g4,0,none⟩) W W]) (fun _ _ h => h) (by simp) ?_
 refine xws_regionE [true,true,true,false] (by kernel_rfl) (fun ρ σ hq18 => ?_)
 refine kTS [0,3] [140,137,4,8,9,10,11,12,19,21] 7 [(140,.v (.int .i64 (n2 : Int))),(137,.p 3 1),(4,.p 0 0),(8,.p 1 0),(9,.p 2 0),(10,.v (.int .i64 (W : Int))),(11,.v (.pointer (some ⟨gd,0,none⟩))),(12,.v (.pointer (some ⟨gh,0,none⟩))),(19,.p 3 0),(21,.v (.int .i64 (n2 : Int)))] ?_
 refine xe_opH 2 (.slice (some ⟨g4,0,none⟩) W W) _ rfl (by kernel_rfl) (by kernel_rfl) (by kernel_rfl) (fun _ _ h => h) (by kernel_rfl) rfl (fun _ _ ww hA hS => ld_range (g := gd) (off := 0) (cs := [.slice (some ⟨g4,0,none⟩) W W]) hA rfl (by kernel_rfl) (rd_row hS (h := 0) rfl hq18.2) (by kernel_rfl)) rfl ?_
 refine kA [1,4] ⟨?_,?_⟩
 refine kSV 1 (.v (.string r.data)) rfl ?_
 refine kA [4] ?_
 refine kSR 4 (.slice (if W = 0 then (some ⟨g4,0,none⟩ : Option Addr) else (some ⟨g4,0,none⟩ : Option Addr).map (·.add (0 * 1))) (n2 - 0) (W - 0)) rfl (fun _ _ ww hr => act_slV0 (e := 5) (A := some ⟨g4,0,none⟩) (len := W) (cap := W) (K := 1) (k' := .i64) (q' := (n2 : Int)) n2 hr.1 rfl (by kernel_rfl) (by kernel_rfl) (by kernel_rfl) (by kernel_rfl) rfl (Nat.le_trans (show n2 ≤ W by omega) (Sl.capLe (rowF_sl (hr.2.fact (rowF w.heap.size 5 1 (.slice (some ⟨g4,0,none⟩) W W) ((dtOf W sl).map bR)) (by simp)).1))) ww) ?_
 refine kA [5] ?_
 refine kSR 5 (.string (bstr (((dtOf W sl).drop 0).take (n2 - 0)))) rfl (fun _ _ ww hr => act_b2s (e := 5) (((dtOf W sl).drop 0).take (n2 - 0)) hr.1 rfl (by kernel_rfl) (by kernel_rfl) (by kernel_rfl) rfl (Sl.partM (rowF_sl (hr.2.fact (rowF w.heap.size 5 1 (.slice (some ⟨g4,0,none⟩) W W) ((dtOf W sl).map bR)) (by simp)).1) 0 n2 (by omega) (by omega))) ?_
 refine xe_nv [142,141,138,139,140,137,4,8,9,10,11,12,19,21] [(142,.v (.string (bstr (((dtOf W sl).drop 0).take (n2 - 0)))))] [(142,.v (.string (bstr (sl.take n2))))] (by rw [show (bstr (((dtOf W sl).drop 0).take (n2 - 0))) = (bstr (sl.take n2)) from dt_head hn2 hps]) (by kernel_rfl) ?_
 refine kX 6 (.string (r.data ++ (bstr (sl.take n2)))) rfl (fun _ _ ww hA => act_bin hA rfl (by kernel_rfl) (by kernel_rfl) (str_add (by rw [bstr_size,List.length_take]; omega) ww)) ?_
 refine kTS [7] [144,143,4,8,9,10,11,12,19,21] 1 [(144,.p 3 1),(143,.v (.string (r.data ++ (bstr (sl.take n2))))),(4,.p 0 0),(8,.p 1 0),(9,.p 2 0),(10,.v (.int .i64 (W : Int))),(11,.v (.pointer (some ⟨gd,0,none⟩))),(12,.v (.pointer (some ⟨gh,0,none⟩))),(19,.p 3 0),(21,.v (.int .i64 (n2 : Int)))] ?_
 refine kA [8] ?_
 refine kSS 8 3 1 [.string (r.data ++ (bstr (sl.take n2)))] rfl ?_
 refine kZ ?_
 exact kF 4 0 [4,8,9,10,11,12,19,21]
 refine kSR 4 (.slice (if W = 0 then (some ⟨g4,0,none⟩ : Option Addr) else (some ⟨g4,0,none⟩ : Option Addr).map (·.add (0 * 1))) (n2 - 0) (W - 0)) rfl (fun _ _ ww hr => act_slV0 (e := 5) (A := some ⟨g4,0,none⟩) (len := W) (cap := W) (K := 1) (k' := .i64) (q' := (n2 : Int)) n2 hr.1 rfl (by kernel_rfl) (by kernel_rfl) (by kernel_rfl) (by kernel_rfl) rfl (Nat.le_trans (show n2 ≤ W by omega) (Sl.capLe (rowF_sl (hr.2.fact (rowF w.heap.size 5 1 (.slice (some ⟨g4,0,none⟩) W W) ((dtOf W sl).map bR)) (by simp)).1))) ww) ?_
 refine kA [1,5] ⟨?_,?_⟩
 refine kSV 1 (.v (.string r.data)) rfl ?_
 refine kA [5] ?_
 refine kSR 5 (.string (bstr (((dtOf W sl).drop 0).take (n2 - 0)))) rfl (fun _ _ ww hr => act_b2s (e := 5) (((dtOf W sl).drop 0).take (n2 - 0)) hr.1 rfl (by kernel_rfl) (by kernel_rfl) (by kernel_rfl) rfl (Sl.partM (rowF_sl (hr.2.fact (rowF w.heap.size 5 1 (.slice (some ⟨g4,0,none⟩) W W) ((dtOf W sl).map bR)) (by simp)).1) 0 n2 (by omega) (by omega))) ?_
 refine xe_nv [142,138,141,139,140,137,4,8,9,10,11,12,19,21] [(142,.v (.string (bstr (((dtOf W sl).drop 0).take (n2 - 0)))))] [(142,.v (.string (bstr (sl.take n2))))] (by rw [show (bstr (((dtOf W sl).drop 0).take (n2 - 0))) = (bstr (sl.take n2)) from dt_head hn2 hps]) (by kernel_rfl) ?_
 refine kX 6 (.string (r.data ++ (bstr (sl.take n2)))) rfl (fun _ _ ww hA => act_bin hA rfl (by kernel_rfl) (by kernel_rfl) (str_add (by rw [bstr_size,List.length_take]; omega) ww)) ?_
 refine kTS [7] [144,143,4,8,9,10,11,12,19,21] 1 [(144,.p 3 1),(143,.v (.string (r.data ++ (bstr (sl.take n2))))),(4,.p 0 0),(8,.p 1 0),(9,.p 2 0),(10,.v (.int .i64 (W : Int))),(11,.v (.pointer (some ⟨gd,0,none⟩))),(12,.v (.pointer (some ⟨gh,0,none⟩))),(19,.p 3 0),(21,.v (.int .i64 (n2 : Int)))] ?_
 refine kA [8] ?_
 refine kSS 8 3 1 [.string (r.data ++ (bstr (sl.take n2)))] rfl ?_
 refine kZ ?_
 exact kF 4 0 [4,8,9,10,11,12,19,21]
 refine kSR 5 (.string (bstr (((dtOf W sl).drop 0).take (n2 - 0)))) rfl (fun _ _ ww hr => act_b2s (e := 5) (((dtOf W sl).drop 0).take (n2 - 0)) hr.1 rfl (by kernel_rfl) (by kernel_rfl) (by kernel_rfl) rfl (Sl.partM (rowF_sl (hr.2.fact (rowF w.heap.size 5 1 (.slice (some ⟨g4,0,none⟩) W W) ((dtOf W sl).map bR)) (by simp)).1) 0 n2 (by omega) (by omega))) ?_
 refine xe_nv [142,141,139,140,137,4,8,9,10,11,12,19,21] [(142,.v (.string (bstr (((dtOf W sl).drop 0).take (n2 - 0)))))] [(142,.v (.string (bstr (sl.take n2))))] (by rw [show (bstr (((dtOf W sl).drop 0).take (n2 - 0))) = (bstr (sl.take n2)) from dt_head hn2 hps]) (by kernel_rfl) ?_
 refine kA [1] ?_
 refine kSV 1 (.v (.string r.data)) rfl ?_
 refine kX 6 (.string (r.data ++ (bstr (sl.take n2)))) rfl (fun _ _ ww hA => act_bin hA rfl (by kernel_rfl) (by kernel_rfl) (str_add (by rw [bstr_size,List.length_take]; omega) ww)) ?_
 refine kTS [7] [144,143,4,8,9,10,11,12,19,21] 1 [(144,.p 3 1),(143,.v (.string (r.data ++ (bstr (sl.take n2))))),(4,.p 0 0),(8,.p 1 0),(9,.p 2 0),(10,.v (.int .i64 (W : Int))),(11,.v (.pointer (some ⟨gd,0,none⟩))),(12,.v (.pointer (some ⟨gh,0,none⟩))),(19,.p 3 0),(21,.v (.int .i64 (n2 : Int)))] ?_
 refine kA [8] ?_
 refine kSS 8 3 1 [.string (r.data ++ (bstr (sl.take n2)))] rfl ?_
 refine kZ ?_
 exact kF 4 0 [4,8,9,10,11,12,19,21]
 refine kQ ?_
 refine kCD 3 [8,9,10,11,12,19,21,146,147] [(146,.v (.int .i64 r.next)),(147,.v (.int .i64 (n2 : Int)))] 115 [.int .i64 r.next,.int .i64 (n2 : Int)] (some 148) rfl (xc_s fun ww hf => iSeqAdd_c r.next (n2 : Int) ww ) ?_
 intro _
 refine kEU [8,9,10,11,12,19,21] [] 3 ⟨41,[.int .i64 (sA r.next (n2 : Int)),.string (r.data ++ (bstr (sl.take n2))),.slice Arh r.held.length Crh,.int .i64 fo,.bool r.done]⟩ ?_
 refine kS ?_
 refine xw_joinF (α := {zz : Int // (fun (fp : Int) => fp = finOut r seq text fin) zz}) (fun zz => (fun (fp : Int) => (⟨[(8,.p 1 0),(9,.p 2 0),(10,.v (.int .i64 (W : Int))),(11,.v (.pointer (some ⟨gd,0,none⟩))),(12,.v (.pointer (some ⟨gh,0,none⟩))),(19,.p 3 0),(21,.v (.int .i64 (n2 : Int)))],[⟨41,rcvL r (.slice Arh r.held.length Crh)⟩,⟨41,rcvZ⟩,⟨41,rcvL r (.slice v1a r.held.length v1c)⟩,⟨41,[.int .i64 (sA r.next (n2 : Int)),.string (r.data ++ (bstr (sl.take n2))),.slice Arh r.held.length Crh,.int .i64 fp,.bool r.done]⟩],[],[cellF w.heap.size gh 122 [.slice (some ⟨g5,0,none⟩) W W],cellF w.heap.size gd 57 [.slice (some ⟨g4,0,none⟩) W W],rowF w.heap.size 4 1 (.slice (some ⟨g5,0,none⟩) W W) ((hvOf W sl).map boolRow),rowF w.heap.size 5 1 (.slice (some ⟨g4,0,none⟩) W W) ((dtOf W sl).map bR),ownF w.heap.size (.slice v1a r.held.length v1c) 2 (r.held.map pC),slF (.slice Arh r.held.length Crh) 2 (r.held.map pC)]⟩ : St)) zz.1) ?_ ?_
 refine kQ ?_
 refine kED [8,9,10,11,12,19,21,152] [(152,.v (.bool (fo != (-1))))] ?_
 refine kC (fo != (-1)) (fun h19 => ?_) (fun h19 => ?_)
 have h19p := neT h19
 refine kG ?_
 refine kRB 6 [8,9,10,11,12,19,21] [(8,.p 1 0),(9,.p 2 0),(10,.v (.int .i64 (W : Int))),(11,.v (.pointer (some ⟨gd,0,none⟩))),(12,.v (.pointer (some ⟨gh,0,none⟩))),(19,.p 3 0),(21,.v (.int .i64 (n2 : Int)))] [⟨41,rcvL r (.slice Arh r.held.length Crh)⟩,⟨41,rcvZ⟩,⟨41,rcvL r (.slice v1a r.held.length v1c)⟩,⟨41,[.int .i64 (sA r.next (n2 : Int)),.string (r.data ++ (bstr (sl.take n2))),.slice Arh r.held.length Crh,.int .i64 (IntKind.i64.wrap (fo - (n2 : Int))),.bool r.done]⟩] ?_
 refine xl_eq (st' := ⟨[(8,.p 1 0),(9,.p 2 0),(10,.v (.int .i64 (W : Int))),(11,.v (.pointer (some ⟨gd,0,none⟩))),(12,.v (.pointer (some ⟨gh,0,none⟩))),(19,.p 3 0),(21,.v (.int .i64 (n2 : Int)))],[⟨41,rcvL r (.slice Arh r.held.length Crh)⟩,⟨41,rcvZ⟩,⟨41,rcvL r (.slice v1a r.held.length v1c)⟩,⟨41,[.int .i64 (sA r.next (n2 : Int)),.string (r.data ++ (bstr (sl.take n2))),.slice Arh r.held.length Crh,.int .i64 (fo - (n2 : Int)),.bool r.done]⟩],[],[cellF w.heap.size gh 122 [.slice (some ⟨g5,0,none⟩) W W],cellF w.heap.size gd 57 [.slice (some ⟨g4,0,none⟩) W W],rowF w.heap.size 4 1 (.slice (some ⟨g5,0,none⟩) W W) ((hvOf W sl).map boolRow),rowF w.heap.size 5 1 (.slice (some ⟨g4,0,none⟩) W W) ((dtOf W sl).map bR),ownF w.heap.size (.slice v1a r.held.length v1c) 2 (r.held.map pC),slF (.slice Arh r.held.length Crh) 2 (r.held.map pC)]⟩) (by rw [show (IntKind.i64.wrap (fo - (n2 : Int))) = (fo - (n2 : Int)) from wrap_id (by omega) (by omega)] <;> rfl) ?_
 refine kED [8,9,10,11,12,19,21] [] ?_
 exact ⟨⟨(fo - (n2 : Int)),(by unfold finOut; rw [← hall,← hnf,← hfo]; first | rw [if_pos (by omega)] | rw [if_neg (by omega)])⟩,kF 4 0 [8,9,10,11,12,19,21]⟩
 have h19p := neF h19
 refine kK ?_
 exact ⟨⟨(fo),(by unfold finOut; rw [← hall,← hnf,← hfo]; first | rw [if_pos (by omega)] | rw [if_neg (by omega)])⟩,kF 4 0 [8,9,10,11,12,19,21]⟩
 rintro ⟨fp,hfp⟩
 try dsimp only
 try dsimp only at hfp
 refine kQ ?_
 refine kEU [8,9,10,11,12,19,21] [] 3 ⟨41,[.int .i64 (sA r.next (n2 : Int)),.string (r.data ++ (bstr (sl.take n2))),.slice none 0 0,.int .i64 fp,.bool r.done]⟩ ?_
 refine kS ?_
 refine kQ ?_
 refine kED [8,9,10,11,12,19,21,22] [(22,.v (.int .i64 (n2 : Int)))] ?_
 refine xw_block ?_
 refine xw_free (rowF w.heap.size 85 2 (.slice none 0 0) (([] : List Pce).map pC)) (fun ww hww => nilF_p _ _ ww hww) (fun b => nilF_b _ _ _ b) ?_
 refine xw_loopW (α := {x : Nat × List Pce × Option Addr × Nat // (fun (i : Nat) (out : List Pce) (A1 : Option Addr) (c1 : Nat) => (n2 ≤ i ∧ i ≤ W) ∧ pcs [] 0 (sl.drop n2) = pcs out (i - n2) (sl.drop i) ∧ (∀ p ∈ out,0 ≤ p.off ∧ p.off + (p.text.size : Int) ≤ ((i - n2 : Nat) : Int)) ∧ (∀ x,sl[i]? = some x → 0 ≤ x → ¬ touches out (i - n2)) ∧ out.length ≤ i) x.1 x.2.1 x.2.2.1 x.2.2.2}) (fun x => (fun (i : Nat) (out : List Pce) (A1 : Option Addr) (c1 : Nat) => (⟨[(8,.p 1 0),(9,.p 2 0),(10,.v (.int .i64 (W : Int))),(11,.v (.pointer (some ⟨gd,0,none⟩))),(12,.v (.pointer (some ⟨gh,0,none⟩))),(19,.p 3 0),(21,.v (.int .i64 (n2 : Int))),(22,.v (.int .i64 (i : Int)))],[⟨41,rcvL r (.slice Arh r.held.length Crh)⟩,⟨41,rcvZ⟩,⟨41,rcvL r (.slice v1a r.held.length v1c)⟩,⟨41,[.int .i64 (sA r.next (n2 : Int)),.string (r.data ++ (bstr (sl.take n2))),.slice A1 out.length c1,.int .i64 fp,.bool r.done]⟩],[],[rowF w.heap.size 85 2 (.slice A1 out.length c1) (out.map pC),cellF w.heap.size gh 122 [.slice (some ⟨g5,0,none⟩) W W],cellF w.heap.size gd 57 [.slice (some ⟨g4,0,none⟩) W W],rowF w.heap.size 4 1 (.slice (some ⟨g5,0,none⟩) W W) ((hvOf W sl).map boolRow),rowF w.heap.size 5 1 (.slice (some ⟨g4,0,none⟩) W W) ((dtOf W sl).map bR),ownF w.heap.size (.slice v1a r.held.length v1c) 2 (r.held.map pC),slF (.slice Arh r.held.length Crh) 2 (r.held.map pC)]⟩ : St)) x.1.1 x.1.2.1 x.1.2.2.1 x.1.2.2.2) (fun x => (fun (i : Nat) (out : List Pce) (A1 : Option Addr) (c1 : Nat) => W - i) x.1.1 x.1.2.1 x.1.2.2.1 x.1.2.2.2) ⟨(n2,([] : List Pce),none,0),⟨⟨Nat.le_refl _,hn2⟩,(by rw [Nat.sub_self]),(by simp),(fun x _ _ => by rintro ⟨p,hp,-⟩; simp at hp),Nat.zero_le _⟩⟩ (kF 4 0 [8,9,10,11,12,19,21,22]) ?_
 rintro ⟨⟨i,out,A1,c1⟩,hi,HP,hbd,htc,hol⟩
 try dsimp only
 try dsimp only at hi HP hbd htc hol
 refine kS ?_
 refine kQ ?_
 refine kED [8,9,10,11,12,19,21,22,162] [(162,.v (.bool (decide ((i : Int) < (W : Int)))))] ?_
 refine kC (decide ((i : Int) < (W : Int))) (fun h20 => ?_) (fun h20 => ?_)
 have h20p := of_decide_eq_true h20
 have hlt5 : i < W := by simp at h20; omega
 obtain ⟨y2,hy2⟩ : ∃ y,sl[i]? = some y := ⟨_,List.getElem?_eq_getElem (by omega)⟩
 refine kK ?_
 refine xw_block ?_
 refine kS ?_
 refine kQ ?_
 refine kOD 0 [8,9,10,11,12,19,21,22] [] (.slice (some ⟨g5,0,none⟩) W W) rfl (fun _ _ _ ww hr => ldP_run (off := 0) (B := w.heap.size) (g := gh) (T := 122) (cs := [.slice (some ⟨g5,0,none⟩) W W]) hr rfl (by kernel_rfl) (by simp) (by kernel_rfl)) ?_
 refine kOD 1 [8,9,10,11,12,19,21,22,163,164] [(164,.v (.int .i64 (i : Int)))] (.pointer (some ⟨g5,i * 1,none⟩)) rfl (fun _ _ _ ww hr => act_ix (kd := .i64) (T := 122) (e := 4) (K := 1) (g := g5) (N := W) (cap := W) i rfl hr.1 rfl rfl (by kernel_rfl) (by kernel_rfl) (by kernel_rfl) hlt5 ww) ?_
 refine kOD 0 [8,9,10,11,12,19,21,22,165] [] (.bool (decide (0 ≤ y2))) rfl (fun _ _ _ ww hr => ldR_run (po := 0) (j := i) (row := [.bool (decide (0 ≤ y2))]) (rowF w.heap.size 4 1 (.slice (some ⟨g5,0,none⟩) W W) ((hvOf W sl).map boolRow)) hr rfl (by kernel_rfl) (by simp) (by simp only [List.getElem?_map,hvOf_get hlt5 hy2]; rfl) (by kernel_rfl) rfl rfl rfl) ?_
 refine kED [8,9,10,11,12,19,21,22,167] [(167,.v (.bool (!(decide (0 ≤ y2)))))] ?_
 refine kC (!(decide (0 ≤ y2))) (fun h21 => ?_) (fun h21 => ?_)
 have h21n := not_t h21
 have hy2p := of_decide_eq_false h21n
 refine kQ ?_
 refine kRS 3 [8,9,10,11,12,19,21,22] [(8,.p 1 0),(9,.p 2 0),(10,.v (.int .i64 (W : Int))),(11,.v (.pointer (some ⟨gd,0,none⟩))),(12,.v (.pointer (some ⟨gh,0,none⟩))),(19,.p 3 0),(21,.v (.int .i64 (n2 : Int))),(22,.v (.int .i64 (IntKind.i64.wrap ((i : Int) + 1))))] ?_
 refine xl_eqS (t' := [(8,.p 1 0),(9,.p 2 0),(10,.v (.int .i64 (W : Int))),(11,.v (.pointer (some ⟨gd,0,none⟩))),(12,.v (.pointer (some ⟨gh,0,none⟩))),(19,.p 3 0),(21,.v (.int .i64 (n2 : Int))),(22,.v (.int .i64 ((i : Int) + 1)))]) (by rw [show (IntKind.i64.wrap ((i : Int) + 1)) = ((i : Int) + 1) from wrap_id (by omega) (by omega)]) ?_
 refine kED [8,9,10,11,12,19,21,22] [] ?_
 refine xw_exit ?_
 exact ⟨⟨(i + 1,out,A1,c1),⟨(by (try dsimp only); omega),(by rw [HP,pcs_step (l := sl) (m := n2) hy2 (by omega),if_pos (by omega)]),(fun p hp => by have := hbd p hp; (try dsimp only); omega),(fun x _ _ => by rw [show i + 1 - n2 = (i - n2) + 1 by omega]; exact touch_skip hbd),(by (try dsimp only); omega)⟩⟩,kF 4 0 [8,9,10,11,12,19,21,22],by show (fun (i : Nat) (out : List Pce) (A1 : Option Addr) (c1 : Nat) => W - i) (i + 1) out A1 c1 < W - i; (dsimp only; omega)⟩
 have h21n := not_f h21
 have hy2p := of_decide_eq_true h21n
 refine kK ?_
 refine kQ ?_
 refine kED [8,9,10,11,12,19,21,22,23] [(23,.v (.int .i64 (i : Int)))] ?_
 refine kS ?_
 refine xw_joinF (α := {zz : Nat // (fun (j : Nat) => (i < j ∧ j ≤ W) ∧ (∀ x ∈ (sl.drop i).take (j - i),0 ≤ x) ∧ (∀ z,sl[j]? = some z → z < 0)) zz}) (fun zz => (fun (j : Nat) => (⟨[(8,.p 1 0),(9,.p 2 0),(10,.v (.int .i64 (W : Int))),(11,.v (.pointer (some ⟨gd,0,none⟩))),(12,.v (.pointer (some ⟨gh,0,none⟩))),(19,.p 3 0),(21,.v (.int .i64 (n2 : Int))),(22,.v (.int .i64 (j : Int))),(23,.v (.int .i64 (i : Int)))],[⟨41,rcvL r (.slice Arh r.held.length Crh)⟩,⟨41,rcvZ⟩,⟨41,rcvL r (.slice v1a r.held.length v1c)⟩,⟨41,[.int .i64 (sA r.next (n2 : Int)),.string (r.data ++ (bstr (sl.take n2))),.slice A1 out.length c1,.int .i64 fp,.bool r.done]⟩],[],[rowF w.heap.size 85 2 (.slice A1 out.length c1) (out.map pC),cellF w.heap.size gh 122 [.slice (some ⟨g5,0,none⟩) W W],cellF w.heap.size gd 57 [.slice (some ⟨g4,0,none⟩) W W],rowF w.heap.size 4 1 (.slice (some ⟨g5,0,none⟩) W W) ((hvOf W sl).map boolRow),rowF w.heap.size 5 1 (.slice (some ⟨g4,0,none⟩) W W) ((dtOf W sl).map bR),ownF w.heap.size (.slice v1a r.held.length v1c) 2 (r.held.map pC),slF (.slice Arh r.held.length Crh) 2 (r.held.map pC)]⟩ : St)) zz.1) ?_ ?_
 refine xw_block ?_
 refine xw_loopW (α := {x : Nat // (fun (j : Nat) => (i ≤ j ∧ j ≤ W) ∧ (∀ x ∈ (sl.drop i).take (j - i),0 ≤ x)) x}) (fun x => (fun (j : Nat) => (⟨[(8,.p 1 0),(9,.p 2 0),(10,.v (.int .i64 (W : Int))),(11,.v (.pointer (some ⟨gd,0,none⟩))),(12,.v (.pointer (some ⟨gh,0,none⟩))),(19,.p 3 0),(21,.v (.int .i64 (n2 : Int))),(22,.v (.int .i64 (j : Int))),(23,.v (.int .i64 (i : Int)))],[⟨41,rcvL r (.slice Arh r.held.length Crh)⟩,⟨41,rcvZ⟩,⟨41,rcvL r (.slice v1a r.held.length v1c)⟩,⟨41,[.int .i64 (sA r.next (n2 : Int)),.string (r.data ++ (bstr (sl.take n2))),.slice A1 out.length c1,.int .i64 fp,.bool r.done]⟩],[],[rowF w.heap.size 85 2 (.slice A1 out.length c1) (out.map pC),cellF w.heap.size gh 122 [.slice (some ⟨g5,0,none⟩) W W],cellF w.heap.size gd 57 [.slice (some ⟨g4,0,none⟩) W W],rowF w.heap.size 4 1 (.slice (some ⟨g5,0,none⟩) W W) ((hvOf W sl).map boolRow),rowF w.heap.size 5 1 (.slice (some ⟨g4,0,none⟩) W W) ((dtOf W sl).map bR),ownF w.heap.size (.slice v1a r.held.length v1c) 2 (r.held.map pC),slF (.slice Arh r.held.length Crh) 2 (r.held.map pC)]⟩ : St)) x.1) (fun x => (fun (j : Nat) => W - j) x.1) ⟨(i),⟨⟨Nat.le_refl _,by omega⟩,(by rw [Nat.sub_self]; simp)⟩⟩ (kF 4 0 [8,9,10,11,12,19,21,22,23]) ?_
 rintro ⟨j,hij,hrun⟩
 try dsimp only
 try dsimp only at hij hrun
 refine kS ?_
 refine kQ ?_
 refine kRS 4 [8,9,10,11,12,19,21,22,23,174] [(8,.p 1 0),(9,.p 2 0),(10,.v (.int .i64 (W : Int))),(11,.v (.pointer (some ⟨gd,0,none⟩))),(12,.v (.pointer (some ⟨gh,0,none⟩))),(19,.p 3 0),(21,.v (.int .i64 (n2 : Int))),(22,.v (.int .i64 (j : Int))),(23,.v (.int .i64 (i : Int))),(174,.v (.bool (decide ((j : Int) < (W : Int)))))] ?_
 refine kP 174 (decide ((j : Int) < (W : Int))) (fun h22 => ?_) (fun h22 => ?_)
 have h22p := of_decide_eq_true h22
 have hlt6 : j < W := by simp at h22; omega
 obtain ⟨y3,hy3⟩ : ∃ y,sl[j]? = some y := ⟨_,List.getElem?_eq_getElem (by omega)⟩
 refine kOD 0 [8,9,10,11,12,19,21,22,23,174] [(174,.v (.bool true))] (.slice (some ⟨g5,0,none⟩) W W) rfl (fun _ _ _ ww hr => ldP_run (off := 0) (B := w.heap.size) (g := gh) (T := 122) (cs := [.slice (some ⟨g5,0,none⟩) W W]) hr rfl (by kernel_rfl) (by simp) (by kernel_rfl)) ?_
 refine kOD 1 [8,9,10,11,12,19,21,22,23,174,175,176] [(176,.v (.int .i64 (j : Int)))] (.pointer (some ⟨g5,j * 1,none⟩)) rfl (fun _ _ _ ww hr => act_ix (kd := .i64) (T := 122) (e := 4) (K := 1) (g := g5) (N := W) (cap := W) j rfl hr.1 rfl rfl (by kernel_rfl) (by kernel_rfl) (by kernel_rfl) hlt6 ww) ?_
 refine kOD 0 [8,9,10,11,12,19,21,22,23,174,177] [] (.bool (decide (0 ≤ y3))) rfl (fun _ _ _ ww hr => ldR_run (po := 0) (j := j) (row := [.bool (decide (0 ≤ y3))]) (rowF w.heap.size 4 1 (.slice (some ⟨g5,0,none⟩) W W) ((hvOf W sl).map boolRow)) hr rfl (by kernel_rfl) (by simp) (by simp only [List.getElem?_map,hvOf_get hlt6 hy3]; rfl) (by kernel_rfl) rfl rfl rfl) ?_
 refine kED [8,9,10,11,12,19,21,22,23,179] [(179,.v (.bool (decide (0 ≤ y3))))] ?_
 refine kC (decide (0 ≤ y3)) (fun h23 => ?_) (fun h23 => ?_)
 have h23p := of_decide_eq_true h23
 have hy3p := of_decide_eq_true h23
 refine kK ?_
 refine xw_block ?_
 refine kG ?_
 refine kRD 3 [8,9,10,11,12,19,21,22,23] [(22,.v (.int .i64 (IntKind.i64.wrap ((j : Int) + 1))))] ?_
 refine xl_nv [8,9,10,11,12,19,21,22,23] [(22,.v (.int .i64 (IntKind.i64.wrap ((j : Int) + 1))))] [(22,.v (.int .i64 ((j : Int) + 1)))] (by rw [show (IntKind.i64.wrap ((j : Int) + 1)) = ((j : Int) + 1) from wrap_id (by omega) (by omega)]) (by kernel_rfl) ?_
 refine kED [8,9,10,11,12,19,21,22,23] [] ?_
 exact ⟨⟨(j + 1),⟨(by (try dsimp only); omega),run_more hij.1 hrun hy3 (by omega)⟩⟩,kF 4 0 [8,9,10,11,12,19,21,22,23],by show (fun (j : Nat) => W - j) (j + 1) < W - j; (dsimp only; omega)⟩
 have h23p := of_decide_eq_false h23
 have hy3p := of_decide_eq_false h23
 refine xw_exit ?_
 exact ⟨⟨(j),⟨(by first | omega | (have hne : i ≠ j := (fun e => (by subst e; rw [hy2] at hy3; simp only [Option.some.injEq] at hy3; omega)); omega)),hrun,(by first | exact fun z hz => by rw [hy3] at hz; simp only [Option.some.injEq] at hz; omega | exact fun z hz => by rw [hbe j (by omega) (by omega)] at hz; simp only [Option.some.injEq] at hz; omega)⟩⟩,kF 4 0 [8,9,10,11,12,19,21,22,23]⟩
 have h22p := of_decide_eq_false h22
 have hge6 : j = W := by simp at h22; omega
 refine kED [8,9,10,11,12,19,21,22,23,179] [(179,.v (.bool false))] ?_
 refine kN ?_
 refine xw_exit ?_
 exact ⟨⟨(j),⟨(by first | omega | (have hne : i ≠ j := (fun e => (by subst e; rw [hy2] at hy3; simp only [Option.some.injEq] at hy3; omega)); omega)),hrun,(by first | exact fun z hz => by rw [hy3] at hz; simp only [Option.some.injEq] at hz; omega | exact fun z hz => by rw [hbe j (by omega) (by omega)] at hz; simp only [Option.some.injEq] at hz; omega)⟩⟩,kF 4 0 [8,9,10,11,12,19,21,22,23]⟩
 rintro ⟨j,hij,hrun,hstop⟩
 try dsimp only
 try dsimp only at hij hrun hstop
 refine xw_joinE (α := Option Addr × Nat × Nat) (fun y => (fun (v27a : Option Addr) (v27c : Nat) (g25 : Nat) => (⟨[(8,.p 1 0),(9,.p 2 0),(10,.v (.int .i64 (W : Int))),(11,.v (.pointer (some ⟨gd,0,none⟩))),(12,.v (.pointer (some ⟨gh,0,none⟩))),(19,.p 3 0),(21,.v (.int .i64 (n2 : Int))),(22,.v (.int .i64 (j : Int)))],[⟨41,rcvL r (.slice Arh r.held.length Crh)⟩,⟨41,rcvZ⟩,⟨41,rcvL r (.slice v1a r.held.length v1c)⟩,⟨41,[.int .i64 (sA r.next (n2 : Int)),.string (r.data ++ (bstr (sl.take n2))),.slice v27a ((out ++ ([⟨((i - n2 : Nat) : Int),bstr (((dtOf W sl).drop i).take (j - i))⟩] : List Pce)).length) v27c,.int .i64 fp,.bool r.done]⟩],[],[rowF w.heap.size 85 2 (.slice v27a ((out ++ ([⟨((i - n2 : Nat) : Int),bstr (((dtOf W sl).drop i).take (j - i))⟩] : List Pce)).length) v27c) ((out ++ ([⟨((i - n2 : Nat) : Int),bstr (((dtOf W sl).drop i).take (j - i))⟩] : List Pce)).map pC),rowF w.heap.size 85 2 (.slice (some ⟨g25,0,none⟩) 1 1) (([⟨((i - n2 : Nat) : Int),bstr (((dtOf W sl).drop i).take (j - i))⟩] : List Pce).map pC),cellF w.heap.size gh 122 [.slice (some ⟨g5,0,none⟩) W W],cellF w.heap.size gd 57 [.slice (some ⟨g4,0,none⟩) W W],rowF w.heap.size 4 1 (.slice (some ⟨g5,0,none⟩) W W) ((hvOf W sl).map boolRow),rowF w.heap.size 5 1 (.slice (some ⟨g4,0,none⟩) W W) ((dtOf W sl).map bR),ownF w.heap.size (.slice v1a r.held.length v1c) 2 (r.held.map pC),slF (.slice Arh r.held.length Crh) 2 (r.held.map pC)]⟩ : St)) y.1 y.2.1 y.2.2) ?_ ?_
 refine xe_region0 [true,true,true,false] (by kernel_rfl) (fun ρ σ => ?_)
 refine kTS [0,2,3,4,6,7] [189,188,186,182,8,9,10,11,12,19,21,22] 9 [(189,.v (.int .i64 (j : Int))),(188,.v (.int .i64 (i : Int))),(186,.v (.int .i64 (IntKind.i64.wrap ((i : Int) - (n2 : Int))))),(182,.p 3 2),(8,.p 1 0),(9,.p 2 0),(10,.v (.int .i64 (W : Int))),(11,.v (.pointer (some ⟨gd,0,none⟩))),(12,.v (.pointer (some ⟨gh,0,none⟩))),(19,.p 3 0),(21,.v (.int .i64 (n2 : Int))),(22,.v (.int .i64 (j : Int)))] ?_
 refine xe_nv [189,188,186,182,8,9,10,11,12,19,21,22] [(186,.v (.int .i64 (IntKind.i64.wrap ((i : Int) - (n2 : Int)))))] [(186,.v (.int .i64 ((i - n2 : Nat) : Int)))] (by rw [show (IntKind.i64.wrap ((i : Int) - (n2 : Int))) = ((i - n2 : Nat) : Int) from by rw [wrap_id (by omega) (by omega)]; omega]) (by kernel_rfl) ?_
 refine kA [1,5] ⟨?_,?_⟩
 refine kSV 1 (.v (.slice A1 out.length c1)) rfl ?_
 refine kA [5] ?_
 refine kSR 5 (.slice (some ⟨g4,0,none⟩) W W) rfl (fun _ _ ww hr => ldP_run (off := 0) (B := w.heap.size) (g := gd) (T := 57) (cs := [.slice (some ⟨g4,0,none⟩) W W]) hr rfl (by kernel_rfl) (by simp) (by kernel_rfl)) ?_
 refine kA [8] ?_
 refine kSR 8 (.slice (if W = i then (some ⟨g4,0,none⟩ : Option Addr) else (some ⟨g4,0,none⟩ : Option Addr).map (·.add (i * 1))) (j - i) (W - i)) rfl (fun _ _ ww hr => act_slV (e := 5) (A := some ⟨g4,0,none⟩) (len := W) (cap := W) (K := 1) (k := .i64) (p' := (i : Int)) (k' := .i64) (q' := (j : Int)) i j hr.1 rfl (by kernel_rfl) (by kernel_rfl) (by kernel_rfl) (by kernel_rfl) (by kernel_rfl) rfl rfl (by omega) (Nat.le_trans (show j ≤ W by omega) (Sl.capLe (rowF_sl (hr.2.fact (rowF w.heap.size 5 1 (.slice (some ⟨g4,0,none⟩) W W) ((dtOf W sl).map bR)) (by simp)).1))) ww) ?_
 refine kA [9] ?_
 refine kSR 9 (.string (bstr (((dtOf W sl).drop i).take (j - i)))) rfl (fun _ _ ww hr => act_b2s (e := 5) (((dtOf W sl).drop i).take (j - i)) hr.1 rfl (by kernel_rfl) (by kernel_rfl) (by kernel_rfl) rfl (Sl.partM (rowF_sl (hr.2.fact (rowF w.heap.size 5 1 (.slice (some ⟨g4,0,none⟩) W W) ((dtOf W sl).map bR)) (by simp)).1) i j (by omega) (by omega))) ?_
 refine kX 10 (.agg (pceL (⟨((i - n2 : Nat) : Int),bstr (((dtOf W sl).drop i).take (j - i))⟩ : Pce)).toArray) rfl (fun _ _ ww hA => act_build [(0,.int .i64 ((i - n2 : Nat) : Int)),(1,.string (bstr (((dtOf W sl).drop i).take (j - i))))] hA rfl (by kernel_rfl) (by kernel_rfl) ww) ?_
 refine kA [11] ?_
 refine kSH 11 rfl (under_t (under_t (under_t (under_f rfl under_nil)))) (hv_build (e := 85) (K := 2) (bytes := 24) [.agg (pceL (⟨((i - n2 : Nat) : Int),bstr (((dtOf W sl).drop i).take (j - i))⟩ : Pce)).toArray] rfl (by kernel_rfl) (by kernel_rfl) (by kernel_rfl) (by kernel_rfl) (by kernel_rfl) (rs := ([⟨((i - n2 : Nat) : Int),bstr (((dtOf W sl).drop i).take (j - i))⟩] : List Pce).map pC) rfl) ?_
 intro g25
 refine kA [12] ?_
 refine kSH 12 rfl (under_t (under_t (under_t (under_f rfl under_nil)))) (hv_append (e := 85) (K := 2) (bytes := 24) (i := 1) (q := (out ++ ([⟨((i - n2 : Nat) : Int),bstr (((dtOf W sl).drop i).take (j - i))⟩] : List Pce)).length) (new := ([⟨((i - n2 : Nat) : Int),bstr (((dtOf W sl).drop i).take (j - i))⟩] : List Pce).map pC) (rs' := (out ++ ([⟨((i - n2 : Nat) : Int),bstr (((dtOf W sl).drop i).take (j - i))⟩] : List Pce)).map pC) rfl rfl rfl rfl (by kernel_rfl) (by kernel_rfl) (by kernel_rfl) rfl (by first | (simp; done) | (simp; omega)) (by rw [List.map_append]) (by first | (simp; done) | (simp; omega)) (fun ww hf => (rowF_sl (hf (rowF w.heap.size 85 2 (.slice (some ⟨g25,0,none⟩) 1 1) (([⟨((i - n2 : Nat) : Int),bstr (((dtOf W sl).drop i).take (j - i))⟩] : List Pce).map pC)) (by simp)))) (by intro r hr; obtain ⟨x,hx,rfl⟩ := List.mem_map.1 hr; exact ⟨rfl,by simp [pC,Value.oneCell']⟩) (by (try simp only [List.length_map,List.length_append,List.length_cons,List.length_nil,List.length_take,List.length_drop,maxLen]); omega) (by (try simp only [List.length_map,List.length_append,List.length_cons,List.length_nil,List.length_take,List.length_drop,maxLen]); omega)) ?_
 rintro ⟨v27a,v27c⟩
 refine kTS [13] [195,194,8,9,10,11,12,19,21,22] 1 [(195,.p 3 2),(194,.v (.slice v27a ((out ++ ([⟨((i - n2 : Nat) : Int),bstr (((dtOf W sl).drop i).take (j - i))⟩] : List Pce)).length) v27c)),(8,.p 1 0),(9,.p 2 0),(10,.v (.int .i64 (W : Int))),(11,.v (.pointer (some ⟨gd,0,none⟩))),(12,.v (.pointer (some ⟨gh,0,none⟩))),(19,.p 3 0),(21,.v (.int .i64 (n2 : Int))),(22,.v (.int .i64 (j : Int)))] ?_
 refine kA [14] ?_
 refine kSS 14 3 2 [.slice v27a ((out ++ ([⟨((i - n2 : Nat) : Int),bstr (((dtOf W sl).drop i).take (j - i))⟩] : List Pce)).length) v27c] rfl ?_
 refine kZ ?_
 exact ⟨(v27a,v27c,g25),kF 4 0 [8,9,10,11,12,19,21,22]⟩
 refine kSR 5 (.slice (some ⟨g4,0,none⟩) W W) rfl (fun _ _ ww hr => ldP_run (off := 0) (B := w.heap.size) (g := gd) (T := 57) (cs := [.slice (some ⟨g4,0,none⟩) W W]) hr rfl (by kernel_rfl) (by simp) (by kernel_rfl)) ?_
 refine kA [1,8] ⟨?_,?_⟩
 refine kSV 1 (.v (.slice A1 out.length c1)) rfl ?_
 refine kA [8] ?_
 refine kSR 8 (.slice (if W = i then (some ⟨g4,0,none⟩ : Option Addr) else (some ⟨g4,0,none⟩ : Option Addr).map (·.add (i * 1))) (j - i) (W - i)) rfl (fun _ _ ww hr => act_slV (e := 5) (A := some ⟨g4,0,none⟩) (len := W) (cap := W) (K := 1) (k := .i64) (p' := (i : Int)) (k' := .i64) (q' := (j : Int)) i j hr.1 rfl (by kernel_rfl) (by kernel_rfl) (by kernel_rfl) (by kernel_rfl) (by kernel_rfl) rfl rfl (by omega) (Nat.le_trans (show j ≤ W by omega) (Sl.capLe (rowF_sl (hr.2.fact (rowF w.heap.size 5 1 (.slice (some ⟨g4,0,none⟩) W W) ((dtOf W sl).map bR)) (by simp)).1))) ww) ?_
 refine kA [9] ?_
 refine kSR 9 (.string (bstr (((dtOf W sl).drop i).take (j - i)))) rfl (fun _ _ ww hr => act_b2s (e := 5) (((dtOf W sl).drop i).take (j - i)) hr.1 rfl (by kernel_rfl) (by kernel_rfl) (by kernel_rfl) rfl (Sl.partM (rowF_sl (hr.2.fact (rowF w.heap.size 5 1 (.slice (some ⟨g4,0,none⟩) W W) ((dtOf W sl).map bR)) (by simp)).1) i j (by omega) (by omega))) ?_
 refine kX 10 (.agg (pceL (⟨((i - n2 : Nat) : Int),bstr (((dtOf W sl).drop i).take (j - i))⟩ : Pce)).toArray) rfl (fun _ _ ww hA => act_build [(0,.int .i64 ((i - n2 : Nat) : Int)),(1,.string (bstr (((dtOf W sl).drop i).take (j - i))))] hA rfl (by kernel_rfl) (by kernel_rfl) ww) ?_
 refine kA [11] ?_
 refine kSH 11 rfl (under_t (under_t (under_t (under_f rfl under_nil)))) (hv_build (e := 85) (K := 2) (bytes := 24) [.agg (pceL (⟨((i - n2 : Nat) : Int),bstr (((dtOf W sl).drop i).take (j - i))⟩ : Pce)).toArray] rfl (by kernel_rfl) (by kernel_rfl) (by kernel_rfl) (by kernel_rfl) (by kernel_rfl) (rs := ([⟨((i - n2 : Nat) : Int),bstr (((dtOf W sl).drop i).take (j - i))⟩] : List Pce).map pC) rfl) ?_
 intro g29
 refine kA [12] ?_
 refine kSH 12 rfl (under_t (under_t (under_t (under_f rfl under_nil)))) (hv_append (e := 85) (K := 2) (bytes := 24) (i := 1) (q := (out ++ ([⟨((i - n2 : Nat) : Int),bstr (((dtOf W sl).drop i).take (j - i))⟩] : List Pce)).length) (new := ([⟨((i - n2 : Nat) : Int),bstr (((dtOf W sl).drop i).take (j - i))⟩] : List Pce).map pC) (rs' := (out ++ ([⟨((i - n2 : Nat) : Int),bstr (((dtOf W sl).drop i).take (j - i))⟩] : List Pce)).map pC) rfl rfl rfl rfl (by kernel_rfl) (by kernel_rfl) (by kernel_rfl) rfl (by first | (simp; done) | (simp; omega)) (by rw [List.map_append]) (by first | (simp; done) | (simp; omega)) (fun ww hf => (rowF_sl (hf (rowF w.heap.size 85 2 (.slice (some ⟨g29,0,none⟩) 1 1) (([⟨((i - n2 : Nat) : Int),bstr (((dtOf W sl).drop i).take (j - i))⟩] : List Pce).map pC)) (by simp)))) (by intro r hr; obtain ⟨x,hx,rfl⟩ := List.mem_map.1 hr; exact ⟨rfl,by simp [pC,Value.oneCell']⟩) (by (try simp only [List.length_map,List.length_append,List.length_cons,List.length_nil,List.length_take,List.length_drop,maxLen]); omega) (by (try simp only [List.length_map,List.length_append,List.length_cons,List.length_nil,List.length_take,List.length_drop,maxLen]); omega)) ?_
 rintro ⟨v31a,v31c⟩
 refine kTS [13] [195,194,8,9,10,11,12,19,21,22] 1 [(195,.p 3 2),(194,.v (.slice v31a ((out ++ ([⟨((i - n2 : Nat) : Int),bstr (((dtOf W sl).drop i).take (j - i))⟩] : List Pce)).length) v31c)),(8,.p 1 0),(9,.p 2 0),(10,.v (.int .i64 (W : Int))),(11,.v (.pointer (some ⟨gd,0,none⟩))),(12,.v (.pointer (some ⟨gh,0,none⟩))),(19,.p 3 0),(21,.v (.int .i64 (n2 : Int))),(22,.v (.int .i64 (j : Int)))] ?_
 refine kA [14] ?_
 refine kSS 14 3 2 [.slice v31a ((out ++ ([⟨((i - n2 : Nat) : Int),bstr (((dtOf W sl).drop i).take (j - i))⟩] : List Pce)).length) v31c] rfl ?_
 refine kZ ?_
 exact ⟨(v31a,v31c,g29),kF 4 0 [8,9,10,11,12,19,21,22]⟩
 refine kSR 8 (.slice (if W = i then (some ⟨g4,0,none⟩ : Option Addr) else (some ⟨g4,0,none⟩ : Option Addr).map (·.add (i * 1))) (j - i) (W - i)) rfl (fun _ _ ww hr => act_slV (e := 5) (A := some ⟨g4,0,none⟩) (len := W) (cap := W) (K := 1) (k := .i64) (p' := (i : Int)) (k' := .i64) (q' := (j : Int)) i j hr.1 rfl (by kernel_rfl) (by kernel_rfl) (by kernel_rfl) (by kernel_rfl) (by kernel_rfl) rfl rfl (by omega) (Nat.le_trans (show j ≤ W by omega) (Sl.capLe (rowF_sl (hr.2.fact (rowF w.heap.size 5 1 (.slice (some ⟨g4,0,none⟩) W W) ((dtOf W sl).map bR)) (by simp)).1))) ww) ?_
 refine kA [1,9] ⟨?_,?_⟩
 refine kSV 1 (.v (.slice A1 out.length c1)) rfl ?_
 refine kA [9] ?_
 refine kSR 9 (.string (bstr (((dtOf W sl).drop i).take (j - i)))) rfl (fun _ _ ww hr => act_b2s (e := 5) (((dtOf W sl).drop i).take (j - i)) hr.1 rfl (by kernel_rfl) (by kernel_rfl) (by kernel_rfl) rfl (Sl.partM (rowF_sl (hr.2.fact (rowF w.heap.size 5 1 (.slice (some ⟨g4,0,none⟩) W W) ((dtOf W sl).map bR)) (by simp)).1) i j (by omega) (by omega))) ?_
 refine kX 10 (.agg (pceL (⟨((i - n2 : Nat) : Int),bstr (((dtOf W sl).drop i).take (j - i))⟩ : Pce)).toArray) rfl (fun _ _ ww hA => act_build [(0,.int .i64 ((i - n2 : Nat) : Int)),(1,.string (bstr (((dtOf W sl).drop i).take (j - i))))] hA rfl (by kernel_rfl) (by kernel_rfl) ww) ?_
 refine kA [11] ?_
 refine kSH 11 rfl (under_t (under_t (under_t (under_f rfl under_nil)))) (hv_build (e := 85) (K := 2) (bytes := 24) [.agg (pceL (⟨((i - n2 : Nat) : Int),bstr (((dtOf W sl).drop i).take (j - i))⟩ : Pce)).toArray] rfl (by kernel_rfl) (by kernel_rfl) (by kernel_rfl) (by kernel_rfl) (by kernel_rfl) (rs := ([⟨((i - n2 : Nat) : Int),bstr (((dtOf W sl).drop i).take (j - i))⟩] : List Pce).map pC) rfl) ?_
 intro g33
 refine kA [12] ?_
 refine kSH 12 rfl (under_t (under_t (under_t (under_f rfl under_nil)))) (hv_append (e := 85) (K := 2) (bytes := 24) (i := 1) (q := (out ++ ([⟨((i - n2 : Nat) : Int),bstr (((dtOf W sl).drop i).take (j - i))⟩] : List Pce)).length) (new := ([⟨((i - n2 : Nat) : Int),bstr (((dtOf W sl).drop i).take (j - i))⟩] : List Pce).map pC) (rs' := (out ++ ([⟨((i - n2 : Nat) : Int),bstr (((dtOf W sl).drop i).take (j - i))⟩] : List Pce)).map pC) rfl rfl rfl rfl (by kernel_rfl) (by kernel_rfl) (by kernel_rfl) rfl (by first | (simp; done) | (simp; omega)) (by rw [List.map_append]) (by first | (simp; done) | (simp; omega)) (fun ww hf => (rowF_sl (hf (rowF w.heap.size 85 2 (.slice (some ⟨g33,0,none⟩) 1 1) (([⟨((i - n2 : Nat) : Int),bstr (((dtOf W sl).drop i).take (j - i))⟩] : List Pce).map pC)) (by simp)))) (by intro r hr; obtain ⟨x,hx,rfl⟩ := List.mem_map.1 hr; exact ⟨rfl,by simp [pC,Value.oneCell']⟩) (by (try simp only [List.length_map,List.length_append,List.length_cons,List.length_nil,List.length_take,List.length_drop,maxLen]); omega) (by (try simp only [List.length_map,List.length_append,List.length_cons,List.length_nil,List.length_take,List.length_drop,maxLen]); omega)) ?_
 rintro ⟨v35a,v35c⟩
 refine kTS [13] [195,194,8,9,10,11,12,19,21,22] 1 [(195,.p 3 2),(194,.v (.slice v35a ((out ++ ([⟨((i - n2 : Nat) : Int),bstr (((dtOf W sl).drop i).take (j - i))⟩] : List Pce)).length) v35c)),(8,.p 1 0),(9,.p 2 0),(10,.v (.int .i64 (W : Int))),(11,.v (.pointer (some ⟨gd,0,none⟩))),(12,.v (.pointer (some ⟨gh,0,none⟩))),(19,.p 3 0),(21,.v (.int .i64 (n2 : Int))),(22,.v (.int .i64 (j : Int)))] ?_
 refine kA [14] ?_
 refine kSS 14 3 2 [.slice v35a ((out ++ ([⟨((i - n2 : Nat) : Int),bstr (((dtOf W sl).drop i).take (j - i))⟩] : List Pce)).length) v35c] rfl ?_
 refine kZ ?_
 exact ⟨(v35a,v35c,g33),kF 4 0 [8,9,10,11,12,19,21,22]⟩
 refine kSR 9 (.string (bstr (((dtOf W sl).drop i).take (j - i)))) rfl (fun _ _ ww hr => act_b2s (e := 5) (((dtOf W sl).drop i).take (j - i)) hr.1 rfl (by kernel_rfl) (by kernel_rfl) (by kernel_rfl) rfl (Sl.partM (rowF_sl (hr.2.fact (rowF w.heap.size 5 1 (.slice (some ⟨g4,0,none⟩) W W) ((dtOf W sl).map bR)) (by simp)).1) i j (by omega) (by omega))) ?_
 refine kX 10 (.agg (pceL (⟨((i - n2 : Nat) : Int),bstr (((dtOf W sl).drop i).take (j - i))⟩ : Pce)).toArray) rfl (fun _ _ ww hA => act_build [(0,.int .i64 ((i - n2 : Nat) : Int)),(1,.string (bstr (((dtOf W sl).drop i).take (j - i))))] hA rfl (by kernel_rfl) (by kernel_rfl) ww) ?_
 refine kA [1,11] ⟨?_,?_⟩
 refine kSV 1 (.v (.slice A1 out.length c1)) rfl ?_
 refine kA [11] ?_
 refine kSH 11 rfl (under_t (under_t (under_t (under_f rfl under_nil)))) (hv_build (e := 85) (K := 2) (bytes := 24) [.agg (pceL (⟨((i - n2 : Nat) : Int),bstr (((dtOf W sl).drop i).take (j - i))⟩ : Pce)).toArray] rfl (by kernel_rfl) (by kernel_rfl) (by kernel_rfl) (by kernel_rfl) (by kernel_rfl) (rs := ([⟨((i - n2 : Nat) : Int),bstr (((dtOf W sl).drop i).take (j - i))⟩] : List Pce).map pC) rfl) ?_
 intro g38
 refine kA [12] ?_
 refine kSH 12 rfl (under_t (under_t (under_t (under_f rfl under_nil)))) (hv_append (e := 85) (K := 2) (bytes := 24) (i := 1) (q := (out ++ ([⟨((i - n2 : Nat) : Int),bstr (((dtOf W sl).drop i).take (j - i))⟩] : List Pce)).length) (new := ([⟨((i - n2 : Nat) : Int),bstr (((dtOf W sl).drop i).take (j - i))⟩] : List Pce).map pC) (rs' := (out ++ ([⟨((i - n2 : Nat) : Int),bstr (((dtOf W sl).drop i).take (j - i))⟩] : List Pce)).map pC) rfl rfl rfl rfl (by kernel_rfl) (by kernel_rfl) (by kernel_rfl) rfl (by first | (simp; done) | (simp; omega)) (by rw [List.map_append]) (by first | (simp; done) | (simp; omega)) (fun ww hf => (rowF_sl (hf (rowF w.heap.size 85 2 (.slice (some ⟨g38,0,none⟩) 1 1) (([⟨((i - n2 : Nat) : Int),bstr (((dtOf W sl).drop i).take (j - i))⟩] : List Pce).map pC)) (by simp)))) (by intro r hr; obtain ⟨x,hx,rfl⟩ := List.mem_map.1 hr; exact ⟨rfl,by simp [pC,Value.oneCell']⟩) (by (try simp only [List.length_map,List.length_append,List.length_cons,List.length_nil,List.length_take,List.length_drop,maxLen]); omega) (by (try simp only [List.length_map,List.length_append,List.length_cons,List.length_nil,List.length_take,List.length_drop,maxLen]); omega)) ?_
 rintro ⟨v40a,v40c⟩
 refine kTS [13] [195,194,8,9,10,11,12,19,21,22] 1 [(195,.p 3 2),(194,.v (.slice v40a ((out ++ ([⟨((i - n2 : Nat) : Int),bstr (((dtOf W sl).drop i).take (j - i))⟩] : List Pce)).length) v40c)),(8,.p 1 0),(9,.p 2 0),(10,.v (.int .i64 (W : Int))),(11,.v (.pointer (some ⟨gd,0,none⟩))),(12,.v (.pointer (some ⟨gh,0,none⟩))),(19,.p 3 0),(21,.v (.int .i64 (n2 : Int))),(22,.v (.int .i64 (j : Int)))] ?_
 refine kA [14] ?_
 refine kSS 14 3 2 [.slice v40a ((out ++ ([⟨((i - n2 : Nat) : Int),bstr (((dtOf W sl).drop i).take (j - i))⟩] : List Pce)).length) v40c] rfl ?_
 refine kZ ?_
 exact ⟨(v40a,v40c,g38),kF 4 0 [8,9,10,11,12,19,21,22]⟩
 refine kSH 11 rfl (under_t (under_t (under_t (under_f rfl under_nil)))) (hv_build (e := 85) (K := 2) (bytes := 24) [.agg (pceL (⟨((i - n2 : Nat) : Int),bstr (((dtOf W sl).drop i).take (j - i))⟩ : Pce)).toArray] rfl (by kernel_rfl) (by kernel_rfl) (by kernel_rfl) (by kernel_rfl) (by kernel_rfl) (rs := ([⟨((i - n2 : Nat) : Int),bstr (((dtOf W sl).drop i).take (j - i))⟩] : List Pce).map pC) rfl) ?_
 intro g41
 refine kA [1] ?_
 refine kSV 1 (.v (.slice A1 out.length c1)) rfl ?_
 refine kA [12] ?_
 refine kSH 12 rfl (under_t (under_t (under_t (under_f rfl under_nil)))) (hv_append (e := 85) (K := 2) (bytes := 24) (i := 1) (q := (out ++ ([⟨((i - n2 : Nat) : Int),bstr (((dtOf W sl).drop i).take (j - i))⟩] : List Pce)).length) (new := ([⟨((i - n2 : Nat) : Int),bstr (((dtOf W sl).drop i).take (j - i))⟩] : List Pce).map pC) (rs' := (out ++ ([⟨((i - n2 : Nat) : Int),bstr (((dtOf W sl).drop i).take (j - i))⟩] : List Pce)).map pC) rfl rfl rfl rfl (by kernel_rfl) (by kernel_rfl) (by kernel_rfl) rfl (by first | (simp; done) | (simp; omega)) (by rw [List.map_append]) (by first | (simp; done) | (simp; omega)) (fun ww hf => (rowF_sl (hf (rowF w.heap.size 85 2 (.slice (some ⟨g41,0,none⟩) 1 1) (([⟨((i - n2 : Nat) : Int),bstr (((dtOf W sl).drop i).take (j - i))⟩] : List Pce).map pC)) (by simp)))) (by intro r hr; obtain ⟨x,hx,rfl⟩ := List.mem_map.1 hr; exact ⟨rfl,by simp [pC,Value.oneCell']⟩) (by (try simp only [List.length_map,List.length_append,List.length_cons,List.length_nil,List.length_take,List.length_drop,maxLen]); omega) (by (try simp only [List.length_map,List.length_append,List.length_cons,List.length_nil,List.length_take,List.length_drop,maxLen]); omega)) ?_
 rintro ⟨v43a,v43c⟩
 refine kTS [13] [195,194,8,9,10,11,12,19,21,22] 1 [(195,.p 3 2),(194,.v (.slice v43a ((out ++ ([⟨((i - n2 : Nat) : Int),bstr (((dtOf W sl).drop i).take (j - i))⟩] : List Pce)).length) v43c)),(8,.p 1 0),(9,.p 2 0),(10,.v (.int .i64 (W : Int))),(11,.v (.pointer (some ⟨gd,0,none⟩))),(12,.v (.pointer (some ⟨gh,0,none⟩))),(19,.p 3 0),(21,.v (.int .i64 (n2 : Int))),(22,.v (.int .i64 (j : Int)))] ?_
 refine kA [14] ?_
 refine kSS 14 3 2 [.slice v43a ((out ++ ([⟨((i - n2 : Nat) : Int),bstr (((dtOf W sl).drop i).take (j - i))⟩] : List Pce)).length) v43c] rfl ?_
 refine kZ ?_
 exact ⟨(v43a,v43c,g41),kF 4 0 [8,9,10,11,12,19,21,22]⟩
 rintro ⟨v27a,v27c,g25⟩
 exact ⟨⟨(j,(out ++ ([⟨((i - n2 : Nat) : Int),bstr (((dtOf W sl).drop i).take (j - i))⟩] : List Pce)),v27a,v27c),⟨(by (try dsimp only); omega),(by rw [dt_part (by omega) hrun,HP]; exact pcs_piece (by omega) hij.1 (by omega) hrun (htc y2 hy2 (by omega))),(bd_more hbd (by omega) (by rw [bstr_size,List.length_take,List.length_drop,dtOf_len (by omega)]; omega)),(fun x hx h0 => by have := hstop x hx; omega),(by (try dsimp only); (try simp only [List.length_append,List.length_cons,List.length_nil]); omega)⟩⟩,kPk [0,2,3,4,5,6,7] <| kF 4 0 [8,9,10,11,12,19,21,22],by show (fun (i : Nat) (out : List Pce) (A1 : Option Addr) (c1 : Nat) => W - i) j (out ++ ([⟨((i - n2 : Nat) : Int),bstr (((dtOf W sl).drop i).take (j - i))⟩] : List Pce)) v27a v27c < W - i; (dsimp only; omega)⟩
 have h20p := of_decide_eq_false h20
 have hge5 : i = W := by simp at h20; omega
 have hpc : pcs [] 0 (sl.drop n2) = out := by rw [HP,hge5]; exact pcs_neg out _ _ (beyond_neg hbe hl)
 refine xw_exit ?_
 refine kS ?_
 refine kQ ?_
 refine kED [8,9,19,199] [(199,.v (.bool (decide (((out.length : Nat) : Int) > 3))))] ?_
 refine kC (decide (((out.length : Nat) : Int) > 3)) (fun h44 => ?_) (fun h44 => ?_)
 have h44p := of_decide_eq_true h44
 refine kQ ?_
 refine kEU [8] [(8,.p 1 0)] 1 ⟨41,rcvL r (.slice v1a r.held.length v1c)⟩ ?_
 refine kR ?_
 have hmod : arrived r seq text fin = r := by first | exact arrived_over hrk (by assumption) (by rw [← hall,← hnf,hpc]; omega) | (unfold arrived; rw [if_neg (by grind)]; done) | (unfold arrived; rw [if_pos (by grind),← hall,← hnf,hpc,← hfp]; first | (rw [if_pos (by omega)]; done) | (rw [if_neg (by omega),if_pos (by first | omega | simp_all)]; done) | (rw [if_neg (by omega),if_neg (by first | omega | simp_all)]; done))
 exact ⟨[.agg (rcvL r (.slice v1a r.held.length v1c)).toArray],by kernel_rfl,fun w' hb hf ha => by rw [hmod]; exact xo1 ((v1a,v1c)) rfl rfl (pO (hf _ m5) hB) hb⟩
 have h44p := of_decide_eq_false h44
 refine kK ?_
 refine kS ?_
 refine kQ ?_
 refine kED [8,19,203] [(203,.v (.bool (fp == 0)))] ?_
 refine kC (fp == 0) (fun h45 => ?_) (fun h45 => ?_)
 have h45p := eqT h45
 refine kQ ?_
 refine kEU [8,19] [] 3 ⟨41,[.int .i64 (sA r.next (n2 : Int)),.string (r.data ++ (bstr (sl.take n2))),.slice A1 out.length c1,.int .i64 fp,.bool true]⟩ ?_
 refine kQ ?_
 refine kEU [8,19] [] 3 ⟨41,[.int .i64 (sA r.next (n2 : Int)),.string (r.data ++ (bstr (sl.take n2))),.slice A1 out.length c1,.int .i64 (-1),.bool true]⟩ ?_
 refine kG ?_
 refine kCD 2 [8,19,207] [(207,.v (.int .i64 (sA r.next (n2 : Int))))] 115 [.int .i64 (sA r.next (n2 : Int)),.int .i64 1] (some 208) rfl (xc_s fun ww hf => iSeqAdd_c (sA r.next (n2 : Int)) 1 ww ) ?_
 intro _
 refine kEF [8,19] ⟨[(8,.p 1 0),(19,.p 3 0)],[⟨41,rcvL r (.slice Arh r.held.length Crh)⟩,⟨41,rcvZ⟩,⟨41,rcvL r (.slice v1a r.held.length v1c)⟩,⟨41,[.int .i64 (sA (sA r.next (n2 : Int)) 1),.string (r.data ++ (bstr (sl.take n2))),.slice A1 out.length c1,.int .i64 (-1),.bool true]⟩],[],[rowF w.heap.size 85 2 (.slice A1 out.length c1) (out.map pC),cellF w.heap.size gh 122 [.slice (some ⟨g5,0,none⟩) W W],cellF w.heap.size gd 57 [.slice (some ⟨g4,0,none⟩) W W],rowF w.heap.size 4 1 (.slice (some ⟨g5,0,none⟩) W W) ((hvOf W sl).map boolRow),rowF w.heap.size 5 1 (.slice (some ⟨g4,0,none⟩) W W) ((dtOf W sl).map bR),ownF w.heap.size (.slice v1a r.held.length v1c) 2 (r.held.map pC),slF (.slice Arh r.held.length Crh) 2 (r.held.map pC)]⟩ ?_
 refine kQ ?_
 refine kEU [8] [(8,.p 1 0)] 1 ⟨41,[.int .i64 (sA (sA r.next (n2 : Int)) 1),.string (r.data ++ (bstr (sl.take n2))),.slice A1 out.length c1,.int .i64 (-1),.bool true]⟩ ?_
 refine kR ?_
 have hmod : arrived r seq text fin = (⟨sA (sA r.next (n2 : Int)) 1,r.data ++ (bstr (sl.take n2)),out,(-1),true⟩) := by first | exact arrived_over hrk (by assumption) (by rw [← hall,← hnf,hpc]; omega) | (unfold arrived; rw [if_neg (by grind)]; done) | (unfold arrived; rw [if_pos (by grind),← hall,← hnf,hpc,← hfp]; first | (rw [if_pos (by omega)]; done) | (rw [if_neg (by omega),if_pos (by first | omega | simp_all)]; done) | (rw [if_neg (by omega),if_neg (by first | omega | simp_all)]; done))
 exact ⟨[.agg #[.int .i64 (sA (sA r.next (n2 : Int)) 1),.string (r.data ++ (bstr (sl.take n2))),.slice A1 out.length c1,.int .i64 (-1),.bool true]],by kernel_rfl,fun w' hb hf ha => by rw [hmod]; exact xo1 ((A1,c1)) rfl rfl (pR (hf _ m0) hB) hb⟩
 have h45p := eqF h45
 refine kK ?_
 refine kQ ?_
 refine kEU [8] [(8,.p 1 0)] 1 ⟨41,[.int .i64 (sA r.next (n2 : Int)),.string (r.data ++ (bstr (sl.take n2))),.slice A1 out.length c1,.int .i64 fp,.bool r.done]⟩ ?_
 refine kR ?_
 have hmod : arrived r seq text fin = (⟨sA r.next (n2 : Int),r.data ++ (bstr (sl.take n2)),out,fp,r.done⟩) := by first | exact arrived_over hrk (by assumption) (by rw [← hall,← hnf,hpc]; omega) | (unfold arrived; rw [if_neg (by grind)]; done) | (unfold arrived; rw [if_pos (by grind),← hall,← hnf,hpc,← hfp]; first | (rw [if_pos (by omega)]; done) | (rw [if_neg (by omega),if_pos (by first | omega | simp_all)]; done) | (rw [if_neg (by omega),if_neg (by first | omega | simp_all)]; done))
 exact ⟨[.agg #[.int .i64 (sA r.next (n2 : Int)),.string (r.data ++ (bstr (sl.take n2))),.slice A1 out.length c1,.int .i64 fp,.bool r.done]],by kernel_rfl,fun w' hb hf ha => by rw [hmod]; exact xo1 ((A1,c1)) rfl rfl (pR (hf _ m0) hB) hb⟩
theorem yiHeard_c (c : Con) (rV : Value) (g : Seg) (w : World) (hZ : Sl w rV 2 (c.r.held.map pC)) (hkn : c.r.held.length ≤ 1048576)(hgz : g.body.size ≤ 1048576) (hm : ∀ p ∈ c.r.held, p.text.size ≤ 1048576) (hsz : c.r.data.size ≤ 4611686018427387904) (B : Nat) (hB : B ≤ w.heap.size) : Calls Tryz.prog 27 #[.agg (conL c rV).toArray, .agg (segL g).toArray] w fun e w' => XRs w w' e (α := Option Addr × Nat) (fun y => .agg (conL (heard c g) (.slice y.1 ((heard c g).r.held.length) y.2)).toArray) (fun y => [ownF B (.slice y.1 ((heard c g).r.held.length) y.2) 2 ((heard c g).r.held.map pC)]) := by
 obtain ⟨Z,Y,hY⟩ := hZ.form
 rw [List.length_map] at hY; subst hY
 have hJ := hZ.len; rw [List.length_map] at hJ
 have hqcrh := Sl.capLe hZ
 refine x_callsA (args := [.agg (conL c (.slice Z c.r.held.length Y)).toArray,.agg (segL g).toArray]) (fn := Tryz.f27) [slF (.slice Z c.r.held.length Y) 2 (c.r.held.map pC)] Tryz.func27 rfl Tryz.ntmps27 rfl (by simp only [List.mem_cons,List.not_mem_nil,or_false,forall_eq_or_imp,forall_eq]; exact ⟨rfl,hZ⟩) ?_
 refine kQ ?_
 refine kEF [2,3,4] ⟨[(2,.p 0 0),(3,.p 1 0),(4,.p 2 0)],[⟨44,conL c (.slice Z c.r.held.length Y)⟩,⟨50,segL g⟩,⟨44,conZ⟩],[],[slF (.slice Z c.r.held.length Y) 2 (c.r.held.map pC)]⟩ ?_
 refine kS ?_
 refine kQ ?_
 refine kCD 2 [2,3,4,8,9] [(8,.v (.agg (conL c (.slice Z c.r.held.length Y)).toArray)),(9,.v (.agg (segL g).toArray))] 42 [.agg (conL c (.slice Z c.r.held.length Y)).toArray,.agg (segL g).toArray] (some 10) rfl (xc_b fun ww hf => yiVerdict_c c (.slice Z c.r.held.length Y) g ww (hf _ m0) (by omega) (by assumption) (by omega)) ?_
 intro _
 refine kED [2,3,4,11] [(11,.v (.bool ((verdict c g) != 5)))] ?_
 refine kC ((verdict c g) != 5) (fun h1 => ?_) (fun h1 => ?_)
 have h1p := neT h1
 have hv5 : ¬ verdict c g = 5 := by simpa using h1
 refine kQ ?_
 refine kCD 1 [4,12] [(12,.v (.agg (conL c (.slice Z c.r.held.length Y)).toArray))] 43 [.agg (conL c (.slice Z c.r.held.length Y)).toArray] (some 13) rfl (xc_r fun ww hw hf => ycloneConn_c c (.slice Z c.r.held.length Y) ww (hf _ m0) (by assumption) w.heap.size hw) ?_
 rintro ⟨v2a,v2c⟩
 refine kEU [4] [(4,.p 2 0)] 2 ⟨44,conL c (.slice v2a c.r.held.length v2c)⟩ ?_
 refine kR ?_
 have hmod : heard c g = c := by first | (unfold heard; rw [if_pos hv5,← hm5]; unfold heardR; rw [if_pos (by assumption)]; done) | (unfold heard; rw [if_pos hv5,← hm5]; unfold heardR; rw [if_pos (by unfold inB; simp [*]; done)]; done) | (unfold heard; rw [if_pos hv5,← hm5]; unfold heardR; rw [if_neg (by unfold inB; simp; omega),← hmr]; done) | (unfold heard; rw [if_neg hv5]; done)
 exact ⟨[.agg (conL c (.slice v2a c.r.held.length v2c)).toArray],by kernel_rfl,fun w' hb hf ha => by rw [hmod]; exact xo1 ((v2a,v2c)) rfl rfl (pO (hf _ m0) hB) hb⟩
 have h1p := neF h1
 have hv5 : verdict c g = 5 := by simpa using h1
 obtain ⟨hc1,hc2,hc3,-⟩ := verdict_fine hv5
 have hgw := segmentOk_w hc3
 have hsc := optionsOk_bd (conOk_r hc1).2.1
 have hfw := farW_bd hgw (conOk_r hc1).2.1
 refine kK ?_
 refine kQ ?_
 refine kCD 1 [2,3,4,14] [(14,.v (.agg (conL c (.slice Z c.r.held.length Y)).toArray))] 43 [.agg (conL c (.slice Z c.r.held.length Y)).toArray] (some 15) rfl (xc_r fun ww hw hf => ycloneConn_c c (.slice Z c.r.held.length Y) ww (hf _ m0) (by assumption) w.heap.size hw) ?_
 rintro ⟨v3a,v3c⟩
 refine kEA [2,3,4,5] [(5,.p 3 0)] [⟨44,conL c (.slice v3a c.r.held.length v3c)⟩] ?_
 refine kS ?_
 refine xw_joinF (α := {zz : Con // (fun (m : Con) => m = heardMid c g) zz}) (fun zz => (fun (m : Con) => (⟨[(2,.p 0 0),(3,.p 1 0),(4,.p 2 0),(5,.p 3 0)],[⟨44,conL c (.slice Z c.r.held.length Y)⟩,⟨50,segL g⟩,⟨44,conZ⟩,⟨44,conL m (.slice v3a m.r.held.length v3c)⟩],[],[ownF w.heap.size (.slice v3a m.r.held.length v3c) 2 (m.r.held.map pC),slF (.slice Z c.r.held.length Y) 2 (c.r.held.map pC)]⟩ : St)) zz.1) ?_ ?_
 refine kQ ?_
 refine kCD 4 [2,3,4,5,18,20] [(18,.v (.agg (sndL c.s).toArray)),(20,.v (.int .i64 g.ack))] 69 [.agg (sndL c.s).toArray,.int .i64 g.ack] (some 21) rfl (xc_b fun ww hf => yiAcked_c c.s g.ack ww  ) ?_
 intro _
 refine kEA [2,3,4,5,6,7] [(6,.p 4 0),(7,.v (.bool ((acked c.s g.ack).2)))] [⟨38,sndL (acked c.s g.ack).1⟩] ?_
 refine kQ ?_
 refine kED [2,3,4,5,6,24] [(24,.v (.bool ((acked c.s g.ack).2)))] ?_
 refine kC ((acked c.s g.ack).2) (fun h4 => ?_) (fun h4 => ?_)
 refine kQ ?_
 refine kEU [2,3,4,5,6] [] 3 ⟨44,conL { c with s := (acked c.s g.ack).1 } (.slice v3a c.r.held.length v3c)⟩ ?_
 refine kQ ?_
 refine kCD 4 [2,3,4,5,6,28,30] [(28,.v (.int .i64 g.window)),(30,.v (.agg (optL c.o).toArray))] 70 [.int .i64 g.window,.agg (optL c.o).toArray] (some 31) rfl (xc_b fun ww hf => yiscaled_c g.window c.o ww  (by omega) (by (try dsimp only); omega)) ?_
 intro _
 refine kEU [2,3,4,5,6] [] 3 ⟨44,conL { c with s := (acked c.s g.ack).1,window := (farW g.window c.o) } (.slice v3a c.r.held.length v3c)⟩ ?_
 refine kQ ?_
 refine kOS 4 [2,3,4,5,6,34,36] [(2,.p 0 0),(3,.p 1 0),(4,.p 2 0),(5,.p 3 0),(6,.p 4 0),(34,.v (.int .i64 c.most)),(36,.v (.int .i64 (farW g.window c.o)))] (.int .i64 (max c.most (farW g.window c.o))) rfl (fun _ _ _ ww hr => act_max2 (k := .i64) (k' := .i64) (p := c.most) (q := (farW g.window c.o)) hr.1 rfl rfl rfl (by kernel_rfl) (by kernel_rfl) ww) ?_
 refine kEU [2,3,4,5,6] [] 3 ⟨44,conL { c with s := (acked c.s g.ack).1,window := (farW g.window c.o),most := max c.most (farW g.window c.o) } (.slice v3a c.r.held.length v3c)⟩ ?_
 refine kQ ?_
 refine kRD 7 [2,3,4,5,6,45] [(45,.v (.bool (((acked c.s g.ack).1.una) != c.s.una)))] ?_
 refine kP 45 (((acked c.s g.ack).1.una) != c.s.una) (fun h5 => ?_) (fun h5 => ?_)
 have h5p := neT h5
 refine kED [2,3,4,5,6,54] [(54,.v (.bool (c.state != 7)))] ?_
 refine kC (c.state != 7) (fun h6 => ?_) (fun h6 => ?_)
 have h6p := neT h6
 refine kQ ?_
 refine kEU [2,3,4,5,6] [] 3 ⟨44,conL { c with s := (acked c.s g.ack).1,window := (farW g.window c.o),most := max c.most (farW g.window c.o),tries := 0 } (.slice v3a c.r.held.length v3c)⟩ ?_
 refine kQ ?_
 refine kEU [2,3,4,5,6] [] 3 ⟨44,[.int .i64 c.t.ip,.int .i64 c.t.port,.int .i64 c.t.my,.int .i64 c.state,.int .i64 ((acked c.s g.ack).1.una),.string ((acked c.s g.ack).1.data),.int .i64 ((acked c.s g.ack).1.sent),.bool ((acked c.s g.ack).1.fin),.bool ((acked c.s g.ack).1.finSent),.bool ((acked c.s g.ack).1.done),.int .i64 c.r.next,.string c.r.data,.slice v3a c.r.held.length v3c,.int .i64 c.r.fin,.bool c.r.done,.int .i64 (farW g.window c.o),.int .i64 (max c.most (farW g.window c.o)),.int .i64 c.o.mss,.int .i64 c.o.scale,.bool c.o.sack,.bool c.o.stamp,.int .i64 c.o.val,.int .i64 c.o.echo,.int .i64 0,.int .i64 0]⟩ ?_
 refine kQ ?_
 refine kCD 1 [2,3,4,5,57] [(57,.v (.agg (sndL (acked c.s g.ack).1).toArray))] 71 [.agg (sndL (acked c.s g.ack).1).toArray] (some 58) rfl (xc_b fun ww hf => iFlown_c ((acked c.s g.ack).1.una) ((acked c.s g.ack).1.data) ((acked c.s g.ack).1.sent) ((acked c.s g.ack).1.fin) ((acked c.s g.ack).1.finSent) ((acked c.s g.ack).1.done) ww ) ?_
 intro _
 refine kED [2,3,4,5,59] [(59,.v (.bool (decide ((flown ((acked c.s g.ack).1)) > 0))))] ?_
 refine kC (decide ((flown ((acked c.s g.ack).1)) > 0)) (fun h7 => ?_) (fun h7 => ?_)
 have h7p := of_decide_eq_true h7
 refine kG ?_
 refine kEU [2,3,4,5] [] 3 ⟨44,[.int .i64 c.t.ip,.int .i64 c.t.port,.int .i64 c.t.my,.int .i64 c.state,.int .i64 ((acked c.s g.ack).1.una),.string ((acked c.s g.ack).1.data),.int .i64 ((acked c.s g.ack).1.sent),.bool ((acked c.s g.ack).1.fin),.bool ((acked c.s g.ack).1.finSent),.bool ((acked c.s g.ack).1.done),.int .i64 c.r.next,.string c.r.data,.slice v3a c.r.held.length v3c,.int .i64 c.r.fin,.bool c.r.done,.int .i64 (farW g.window c.o),.int .i64 (max c.most (farW g.window c.o)),.int .i64 c.o.mss,.int .i64 c.o.scale,.bool c.o.sack,.bool c.o.stamp,.int .i64 c.o.val,.int .i64 c.o.echo,.int .i64 3,.int .i64 0]⟩ ?_
 exact ⟨⟨(⟨c.t,c.state,(acked c.s g.ack).1,c.r,(farW g.window c.o),max c.most (farW g.window c.o),c.o,3,0⟩),(by unfold heardMid; first | (simp [*]; done) | grind)⟩,kF 4 0 [2,3,4,5]⟩
 have h7p := of_decide_eq_false h7
 refine kK ?_
 exact ⟨⟨(⟨c.t,c.state,(acked c.s g.ack).1,c.r,(farW g.window c.o),max c.most (farW g.window c.o),c.o,0,0⟩),(by unfold heardMid; first | (simp [*]; done) | grind)⟩,kF 4 0 [2,3,4,5]⟩
 have h6p := neF h6
 refine kK ?_
 exact ⟨⟨({ c with s := (acked c.s g.ack).1,window := (farW g.window c.o),most := max c.most (farW g.window c.o) }),(by unfold heardMid; first | (simp [*]; done) | grind)⟩,kF 4 0 [2,3,4,5]⟩
 have h5p := neF h5
 refine kCD 1 [2,3,4,5,6,45,46] [(45,.v (.bool false)),(46,.v (.agg (sndL (acked c.s g.ack).1).toArray))] 71 [.agg (sndL (acked c.s g.ack).1).toArray] (some 47) rfl (xc_b fun ww hf => iFlown_c ((acked c.s g.ack).1.una) ((acked c.s g.ack).1.data) ((acked c.s g.ack).1.sent) ((acked c.s g.ack).1.fin) ((acked c.s g.ack).1.finSent) ((acked c.s g.ack).1.done) ww ) ?_
 intro _
 refine kRD 3 [2,3,4,5,6,50] [(50,.v (.bool ((flown ((acked c.s g.ack).1)) == 0)))] ?_
 refine kP 50 ((flown ((acked c.s g.ack).1)) == 0) (fun h8 => ?_) (fun h8 => ?_)
 have h8p := eqT h8
 refine kED [2,3,4,5,6,54] [(54,.v (.bool (c.state != 7)))] ?_
 refine kC (c.state != 7) (fun h9 => ?_) (fun h9 => ?_)
 have h9p := neT h9
 refine kQ ?_
 refine kEU [2,3,4,5,6] [] 3 ⟨44,conL { c with s := (acked c.s g.ack).1,window := (farW g.window c.o),most := max c.most (farW g.window c.o),tries := 0 } (.slice v3a c.r.held.length v3c)⟩ ?_
 refine kQ ?_
 refine kEU [2,3,4,5,6] [] 3 ⟨44,[.int .i64 c.t.ip,.int .i64 c.t.port,.int .i64 c.t.my,.int .i64 c.state,.int .i64 ((acked c.s g.ack).1.una),.string ((acked c.s g.ack).1.data),.int .i64 ((acked c.s g.ack).1.sent),.bool ((acked c.s g.ack).1.fin),.bool ((acked c.s g.ack).1.finSent),.bool ((acked c.s g.ack).1.done),.int .i64 c.r.next,.string c.r.data,.slice v3a c.r.held.length v3c,.int .i64 c.r.fin,.bool c.r.done,.int .i64 (farW g.window c.o),.int .i64 (max c.most (farW g.window c.o)),.int .i64 c.o.mss,.int .i64 c.o.scale,.bool c.o.sack,.bool c.o.stamp,.int .i64 c.o.val,.int .i64 c.o.echo,.int .i64 0,.int .i64 0]⟩ ?_
 refine kQ ?_
 refine kCD 1 [2,3,4,5,57] [(57,.v (.agg (sndL (acked c.s g.ack).1).toArray))] 71 [.agg (sndL (acked c.s g.ack).1).toArray] (some 58) rfl (xc_b fun ww hf => iFlown_c ((acked c.s g.ack).1.una) ((acked c.s g.ack).1.data) ((acked c.s g.ack).1.sent) ((acked c.s g.ack).1.fin) ((acked c.s g.ack).1.finSent) ((acked c.s g.ack).1.done) ww ) ?_
 intro _
 refine kED [2,3,4,5,59] [(59,.v (.bool (decide ((flown ((acked c.s g.ack).1)) > 0))))] ?_
 refine kC (decide ((flown ((acked c.s g.ack).1)) > 0)) (fun h10 => ?_) (fun h10 => ?_)
 have h10p := of_decide_eq_true h10
 refine kG ?_
 refine kEU [2,3,4,5] [] 3 ⟨44,[.int .i64 c.t.ip,.int .i64 c.t.port,.int .i64 c.t.my,.int .i64 c.state,.int .i64 ((acked c.s g.ack).1.una),.string ((acked c.s g.ack).1.data),.int .i64 ((acked c.s g.ack).1.sent),.bool ((acked c.s g.ack).1.fin),.bool ((acked c.s g.ack).1.finSent),.bool ((acked c.s g.ack).1.done),.int .i64 c.r.next,.string c.r.data,.slice v3a c.r.held.length v3c,.int .i64 c.r.fin,.bool c.r.done,.int .i64 (farW g.window c.o),.int .i64 (max c.most (farW g.window c.o)),.int .i64 c.o.mss,.int .i64 c.o.scale,.bool c.o.sack,.bool c.o.stamp,.int .i64 c.o.val,.int .i64 c.o.echo,.int .i64 3,.int .i64 0]⟩ ?_
 exact ⟨⟨(⟨c.t,c.state,(acked c.s g.ack).1,c.r,(farW g.window c.o),max c.most (farW g.window c.o),c.o,3,0⟩),(by unfold heardMid; first | (simp [*]; done) | grind)⟩,kF 4 0 [2,3,4,5]⟩
 have h10p := of_decide_eq_false h10
 refine kK ?_
 exact ⟨⟨(⟨c.t,c.state,(acked c.s g.ack).1,c.r,(farW g.window c.o),max c.most (farW g.window c.o),c.o,0,0⟩),(by unfold heardMid; first | (simp [*]; done) | grind)⟩,kF 4 0 [2,3,4,5]⟩
 have h9p := neF h9
 refine kK ?_
 exact ⟨⟨({ c with s := (acked c.s g.ack).1,window := (farW g.window c.o),most := max c.most (farW g.window c.o) }),(by unfold heardMid; first | (simp [*]; done) | grind)⟩,kF 4 0 [2,3,4,5]⟩
 have h8p := eqF h8
 refine kED [2,3,4,5,6,54] [(54,.v (.bool false))] ?_
 refine kN ?_
 refine kK ?_
 exact ⟨⟨({ c with s := (acked c.s g.ack).1,window := (farW g.window c.o),most := max c.most (farW g.window c.o) }),(by unfold heardMid; first | (simp [*]; done) | grind)⟩,kF 4 0 [2,3,4,5]⟩
 refine kK ?_
 exact ⟨⟨(c),(by unfold heardMid; first | (simp [*]; done) | grind)⟩,kF 4 0 [2,3,4,5]⟩
 rintro ⟨m,hm5⟩
 try dsimp only
 try dsimp only at hm5
 have hmr : m.r = c.r := by rw [hm5]; exact (heardMid_eq c g).1
 have hm1 : m.r.held.length ≤ 1048576 := by rw [hmr]; exact hkn
 have hm2 : ∀ p ∈ m.r.held,p.text.size ≤ 1048576 := by rw [hmr]; exact hm
 have hm3 : m.r.data.size ≤ 4611686018427387904 := by rw [hmr]; exact hsz
 refine kS ?_
 refine kQ ?_
 refine kRD 4 [2,3,4,5,64] [(64,.v (.bool (c.state == 1)))] ?_
 refine kP 64 (c.state == 1) (fun h11 => ?_) (fun h11 => ?_)
 have h11p := eqT h11
 refine kED [2,3,4,5,73] [(73,.v (.bool true))] ?_
 refine kT ?_
 refine xe_region0 [true,true,true,false] (by kernel_rfl) (fun ρ σ => ?_)
 refine kTS [0,1,2,3,4,5,6] [80,79,77,75,4,5] 4 [(80,.v (.agg (segL g).toArray)),(79,.v (.string g.body)),(77,.v (.int .i64 g.seq)),(75,.v (.agg (rcvL c.r (.slice Z c.r.held.length Y)).toArray)),(4,.p 2 0),(5,.p 3 0)] ?_
 refine kA [7] ?_
 refine kSC 7 44 [.agg (segL g).toArray,.int .i64 1] (some 81) rfl (xc_b fun ww hf => iHas_c g.src g.dst g.seq g.ack g.flags g.window g.o.mss g.o.scale g.o.sack g.o.stamp g.o.val g.o.echo g.body 1 ww ) ?_
 intro _
 refine kA [8] ?_
 refine kSC 8 72 [.agg (rcvL c.r (.slice Z c.r.held.length Y)).toArray,.int .i64 g.seq,.string g.body,.bool (hasF g.flags 1)] (some 82) rfl (xc_r fun ww hw hf => yiArrived_c c.r (.slice Z c.r.held.length Y) g.seq g.body (hasF g.flags 1) ww (hf _ m1) (by assumption) (by assumption) (by omega) (by omega) w.heap.size hw) ?_
 rintro ⟨v12a,v12c⟩
 have hz13 := arrived_sz (H := 1048576) (T := 1048576) (D := 4611686018427387904) (r := c.r) (seq := g.seq) (t := g.body) (fin := (hasF g.flags 1)) (by assumption) (by assumption) (by assumption) (by omega) (by omega) (by omega)
 obtain ⟨hz13a,hz13b,hz13c⟩ := hz13
 refine kTS [9] [83,82,4,5] 1 [(83,.p 3 10),(82,.v (.agg (rcvL (arrived c.r g.seq g.body (hasF g.flags 1)) (.slice v12a ((arrived c.r g.seq g.body (hasF g.flags 1)).held.length) v12c)).toArray)),(4,.p 2 0),(5,.p 3 0)] ?_
 refine kA [10] ?_
 refine kSS 10 3 10 (rcvL (arrived c.r g.seq g.body (hasF g.flags 1)) (.slice v12a ((arrived c.r g.seq g.body (hasF g.flags 1)).held.length) v12c)) rfl ?_
 refine kZ ?_
 refine kQ ?_
 refine kCD 1 [4,84] [(84,.v (.agg (conL { m with r := (arrived c.r g.seq g.body (hasF g.flags 1)) } (.slice v12a ((arrived c.r g.seq g.body (hasF g.flags 1)).held.length) v12c)).toArray))] 73 [.agg (conL { m with r := (arrived c.r g.seq g.body (hasF g.flags 1)) } (.slice v12a ((arrived c.r g.seq g.body (hasF g.flags 1)).held.length) v12c)).toArray] (some 85) rfl (xc_r fun ww hw hf => yiTurned_c ({ m with r := (arrived c.r g.seq g.body (hasF g.flags 1)) }) (.slice v12a ((arrived c.r g.seq g.body (hasF g.flags 1)).held.length) v12c) ww (Own.sl (hf _ m0)) (by assumption) (by assumption) (by omega) w.heap.size hw) ?_
 rintro ⟨v14a,v14c⟩
 have hbd15 : (turned ({ m with r := (arrived c.r g.seq g.body (hasF g.flags 1)) })).r.held.length ≤ 1048576 := turned_bd _  (by omega)
 refine kEU [4] [(4,.p 2 0)] 2 ⟨44,conL (turned ({ m with r := (arrived c.r g.seq g.body (hasF g.flags 1)) })) (.slice v14a ((turned ({ m with r := (arrived c.r g.seq g.body (hasF g.flags 1)) })).r.held.length) v14c)⟩ ?_
 refine kR ?_
 have hmod : heard c g = (turned ({ m with r := (arrived c.r g.seq g.body (hasF g.flags 1)) })) := by first | (unfold heard; rw [if_pos hv5,← hm5]; unfold heardR; rw [if_pos (by assumption)]; done) | (unfold heard; rw [if_pos hv5,← hm5]; unfold heardR; rw [if_pos (by unfold inB; simp [*]; done)]; done) | (unfold heard; rw [if_pos hv5,← hm5]; unfold heardR; rw [if_neg (by unfold inB; simp; omega),← hmr]; done) | (unfold heard; rw [if_neg hv5]; done)
 exact ⟨[.agg (conL (turned ({ m with r := (arrived c.r g.seq g.body (hasF g.flags 1)) })) (.slice v14a ((turned ({ m with r := (arrived c.r g.seq g.body (hasF g.flags 1)) })).r.held.length) v14c)).toArray],by kernel_rfl,fun w' hb hf ha => by rw [hmod]; exact xo1 ((v14a,v14c)) rfl rfl (pO (hf _ m0) hB) hb⟩
 have h11p := eqF h11
 refine kRD 5 [2,3,4,5,69] [(69,.v (.bool (c.state == 2)))] ?_
 refine kP 69 (c.state == 2) (fun h16 => ?_) (fun h16 => ?_)
 have h16p := eqT h16
 refine kED [2,3,4,5,73] [(73,.v (.bool true))] ?_
 refine kT ?_
 refine xe_region0 [true,true,true,false] (by kernel_rfl) (fun ρ σ => ?_)
 refine kTS [0,1,2,3,4,5,6] [80,79,77,75,4,5] 4 [(80,.v (.agg (segL g).toArray)),(79,.v (.string g.body)),(77,.v (.int .i64 g.seq)),(75,.v (.agg (rcvL c.r (.slice Z c.r.held.length Y)).toArray)),(4,.p 2 0),(5,.p 3 0)] ?_
 refine kA [7] ?_
 refine kSC 7 44 [.agg (segL g).toArray,.int .i64 1] (some 81) rfl (xc_b fun ww hf => iHas_c g.src g.dst g.seq g.ack g.flags g.window g.o.mss g.o.scale g.o.sack g.o.stamp g.o.val g.o.echo g.body 1 ww ) ?_
 intro _
 refine kA [8] ?_
 refine kSC 8 72 [.agg (rcvL c.r (.slice Z c.r.held.length Y)).toArray,.int .i64 g.seq,.string g.body,.bool (hasF g.flags 1)] (some 82) rfl (xc_r fun ww hw hf => yiArrived_c c.r (.slice Z c.r.held.length Y) g.seq g.body (hasF g.flags 1) ww (hf _ m1) (by assumption) (by assumption) (by omega) (by omega) w.heap.size hw) ?_
 rintro ⟨v17a,v17c⟩
 have hz18 := arrived_sz (H := 1048576) (T := 1048576) (D := 4611686018427387904) (r := c.r) (seq := g.seq) (t := g.body) (fin := (hasF g.flags 1)) (by assumption) (by assumption) (by assumption) (by omega) (by omega) (by omega)
 obtain ⟨hz18a,hz18b,hz18c⟩ := hz18
 refine kTS [9] [83,82,4,5] 1 [(83,.p 3 10),(82,.v (.agg (rcvL (arrived c.r g.seq g.body (hasF g.flags 1)) (.slice v17a ((arrived c.r g.seq g.body (hasF g.flags 1)).held.length) v17c)).toArray)),(4,.p 2 0),(5,.p 3 0)] ?_
 refine kA [10] ?_
 refine kSS 10 3 10 (rcvL (arrived c.r g.seq g.body (hasF g.flags 1)) (.slice v17a ((arrived c.r g.seq g.body (hasF g.flags 1)).held.length) v17c)) rfl ?_
 refine kZ ?_
 refine kQ ?_
 refine kCD 1 [4,84] [(84,.v (.agg (conL { m with r := (arrived c.r g.seq g.body (hasF g.flags 1)) } (.slice v17a ((arrived c.r g.seq g.body (hasF g.flags 1)).held.length) v17c)).toArray))] 73 [.agg (conL { m with r := (arrived c.r g.seq g.body (hasF g.flags 1)) } (.slice v17a ((arrived c.r g.seq g.body (hasF g.flags 1)).held.length) v17c)).toArray] (some 85) rfl (xc_r fun ww hw hf => yiTurned_c ({ m with r := (arrived c.r g.seq g.body (hasF g.flags 1)) }) (.slice v17a ((arrived c.r g.seq g.body (hasF g.flags 1)).held.length) v17c) ww (Own.sl (hf _ m0)) (by assumption) (by assumption) (by omega) w.heap.size hw) ?_
 rintro ⟨v19a,v19c⟩
 have hbd20 : (turned ({ m with r := (arrived c.r g.seq g.body (hasF g.flags 1)) })).r.held.length ≤ 1048576 := turned_bd _  (by omega)
 refine kEU [4] [(4,.p 2 0)] 2 ⟨44,conL (turned ({ m with r := (arrived c.r g.seq g.body (hasF g.flags 1)) })) (.slice v19a ((turned ({ m with r := (arrived c.r g.seq g.body (hasF g.flags 1)) })).r.held.length) v19c)⟩ ?_
 refine kR ?_
 have hmod : heard c g = (turned ({ m with r := (arrived c.r g.seq g.body (hasF g.flags 1)) })) := by first | (unfold heard; rw [if_pos hv5,← hm5]; unfold heardR; rw [if_pos (by assumption)]; done) | (unfold heard; rw [if_pos hv5,← hm5]; unfold heardR; rw [if_pos (by unfold inB; simp [*]; done)]; done) | (unfold heard; rw [if_pos hv5,← hm5]; unfold heardR; rw [if_neg (by unfold inB; simp; omega),← hmr]; done) | (unfold heard; rw [if_neg hv5]; done)
 exact ⟨[.agg (conL (turned ({ m with r := (arrived c.r g.seq g.body (hasF g.flags 1)) })) (.slice v19a ((turned ({ m with r := (arrived c.r g.seq g.body (hasF g.flags 1)) })).r.held.length) v19c)).toArray],by kernel_rfl,fun w' hb hf ha => by rw [hmod]; exact xo1 ((v19a,v19c)) rfl rfl (pO (hf _ m0) hB) hb⟩
 have h16p := eqF h16
 refine kED [2,3,4,5,73] [(73,.v (.bool (c.state == 3)))] ?_
 refine kC (c.state == 3) (fun h21 => ?_) (fun h21 => ?_)
 have h21p := eqT h21
 refine xe_region0 [true,true,true,false] (by kernel_rfl) (fun ρ σ => ?_)
 refine kTS [0,1,2,3,4,5,6] [80,79,77,75,4,5] 4 [(80,.v (.agg (segL g).toArray)),(79,.v (.string g.body)),(77,.v (.int .i64 g.seq)),(75,.v (.agg (rcvL c.r (.slice Z c.r.held.length Y)).toArray)),(4,.p 2 0),(5,.p 3 0)] ?_
 refine kA [7] ?_
 refine kSC 7 44 [.agg (segL g).toArray,.int .i64 1] (some 81) rfl (xc_b fun ww hf => iHas_c g.src g.dst g.seq g.ack g.flags g.window g.o.mss g.o.scale g.o.sack g.o.stamp g.o.val g.o.echo g.body 1 ww ) ?_
 intro _
 refine kA [8] ?_
 refine kSC 8 72 [.agg (rcvL c.r (.slice Z c.r.held.length Y)).toArray,.int .i64 g.seq,.string g.body,.bool (hasF g.flags 1)] (some 82) rfl (xc_r fun ww hw hf => yiArrived_c c.r (.slice Z c.r.held.length Y) g.seq g.body (hasF g.flags 1) ww (hf _ m1) (by assumption) (by assumption) (by omega) (by omega) w.heap.size hw) ?_
 rintro ⟨v22a,v22c⟩
 have hz23 := arrived_sz (H := 1048576) (T := 1048576) (D := 4611686018427387904) (r := c.r) (seq := g.seq) (t := g.body) (fin := (hasF g.flags 1)) (by assumption) (by assumption) (by assumption) (by omega) (by omega) (by omega)
 obtain ⟨hz23a,hz23b,hz23c⟩ := hz23
 refine kTS [9] [83,82,4,5] 1 [(83,.p 3 10),(82,.v (.agg (rcvL (arrived c.r g.seq g.body (hasF g.flags 1)) (.slice v22a ((arrived c.r g.seq g.body (hasF g.flags 1)).held.length) v22c)).toArray)),(4,.p 2 0),(5,.p 3 0)] ?_
 refine kA [10] ?_
 refine kSS 10 3 10 (rcvL (arrived c.r g.seq g.body (hasF g.flags 1)) (.slice v22a ((arrived c.r g.seq g.body (hasF g.flags 1)).held.length) v22c)) rfl ?_
 refine kZ ?_
 refine kQ ?_
 refine kCD 1 [4,84] [(84,.v (.agg (conL { m with r := (arrived c.r g.seq g.body (hasF g.flags 1)) } (.slice v22a ((arrived c.r g.seq g.body (hasF g.flags 1)).held.length) v22c)).toArray))] 73 [.agg (conL { m with r := (arrived c.r g.seq g.body (hasF g.flags 1)) } (.slice v22a ((arrived c.r g.seq g.body (hasF g.flags 1)).held.length) v22c)).toArray] (some 85) rfl (xc_r fun ww hw hf => yiTurned_c ({ m with r := (arrived c.r g.seq g.body (hasF g.flags 1)) }) (.slice v22a ((arrived c.r g.seq g.body (hasF g.flags 1)).held.length) v22c) ww (Own.sl (hf _ m0)) (by assumption) (by assumption) (by omega) w.heap.size hw) ?_
 rintro ⟨v24a,v24c⟩
 have hbd25 : (turned ({ m with r := (arrived c.r g.seq g.body (hasF g.flags 1)) })).r.held.length ≤ 1048576 := turned_bd _  (by omega)
 refine kEU [4] [(4,.p 2 0)] 2 ⟨44,conL (turned ({ m with r := (arrived c.r g.seq g.body (hasF g.flags 1)) })) (.slice v24a ((turned ({ m with r := (arrived c.r g.seq g.body (hasF g.flags 1)) })).r.held.length) v24c)⟩ ?_
 refine kR ?_
 have hmod : heard c g = (turned ({ m with r := (arrived c.r g.seq g.body (hasF g.flags 1)) })) := by first | (unfold heard; rw [if_pos hv5,← hm5]; unfold heardR; rw [if_pos (by assumption)]; done) | (unfold heard; rw [if_pos hv5,← hm5]; unfold heardR; rw [if_pos (by unfold inB; simp [*]; done)]; done) | (unfold heard; rw [if_pos hv5,← hm5]; unfold heardR; rw [if_neg (by unfold inB; simp; omega),← hmr]; done) | (unfold heard; rw [if_neg hv5]; done)
 exact ⟨[.agg (conL (turned ({ m with r := (arrived c.r g.seq g.body (hasF g.flags 1)) })) (.slice v24a ((turned ({ m with r := (arrived c.r g.seq g.body (hasF g.flags 1)) })).r.held.length) v24c)).toArray],by kernel_rfl,fun w' hb hf ha => by rw [hmod]; exact xo1 ((v24a,v24c)) rfl rfl (pO (hf _ m0) hB) hb⟩
 have h21p := eqF h21
 refine kK ?_
 refine kQ ?_
 refine kCD 1 [4,84] [(84,.v (.agg (conL m (.slice v3a m.r.held.length v3c)).toArray))] 73 [.agg (conL m (.slice v3a m.r.held.length v3c)).toArray] (some 85) rfl (xc_r fun ww hw hf => yiTurned_c m (.slice v3a m.r.held.length v3c) ww (Own.sl (hf _ m0)) (by assumption) (by assumption) (by omega) w.heap.size hw) ?_
 rintro ⟨v26a,v26c⟩
 have hbd27 : (turned m).r.held.length ≤ 1048576 := turned_bd _  (by omega)
 refine kEU [4] [(4,.p 2 0)] 2 ⟨44,conL (turned m) (.slice v26a ((turned m).r.held.length) v26c)⟩ ?_
 refine kR ?_
 have hmod : heard c g = (turned m) := by first | (unfold heard; rw [if_pos hv5,← hm5]; unfold heardR; rw [if_pos (by assumption)]; done) | (unfold heard; rw [if_pos hv5,← hm5]; unfold heardR; rw [if_pos (by unfold inB; simp [*]; done)]; done) | (unfold heard; rw [if_pos hv5,← hm5]; unfold heardR; rw [if_neg (by unfold inB; simp; omega),← hmr]; done) | (unfold heard; rw [if_neg hv5]; done)
 exact ⟨[.agg (conL (turned m) (.slice v26a ((turned m).r.held.length) v26c)).toArray],by kernel_rfl,fun w' hb hf ha => by rw [hmod]; exact xo1 ((v26a,v26c)) rfl rfl (pO (hf _ m0) hB) hb⟩
end Go.Proofs.YtebgmdiejgcoiaaGreat
