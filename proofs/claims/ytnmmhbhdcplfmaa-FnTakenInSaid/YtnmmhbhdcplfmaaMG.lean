/- Plain definitions: marks (no program in sight). -/
import Derived.Test.YtnmmhbhdcplfmaaMF
import Derived.Test.YtnmmhbhdcplfmaaYW
import Derived.Test.YtnmmhbhdcplfmaaXH
namespace Go.Proofs.Ytnmmhbhdcplfmaa
open Go.RowKit
theorem bstr_one (z : Int) : (bstr [z]).size = 1 := rfl
def markLoop (k : Int) (out : ByteArray) : ByteArray :=
  if h : 0 < k then markLoop (k.tdiv 10) (bstr [IntKind.u8.wrap (48 + k.tmod 10)] ++ out) else out
termination_by k.toNat
decreasing_by
  rw [Int.tdiv_eq_ediv_of_nonneg (by omega)]; omega
def markText (k : Int) : ByteArray := if k ≤ 0 then ⟨#[109, 48]⟩ else ⟨#[109]⟩ ++ markLoop k ⟨#[]⟩
theorem mark_dec {z : Int} (hz : 0 < z) : (z.tdiv 10).toNat < z.toNat := by rw [Int.tdiv_eq_ediv_of_nonneg (by omega)]; omega
theorem markLoop_step {k z : Int} {o out : ByteArray} (hz : 0 < z) (h : markLoop k o = markLoop z out) : markLoop k o = markLoop (z.tdiv 10) (bstr [IntKind.u8.wrap (48 + z.tmod 10)] ++ out) := by
  rw [h, markLoop, dif_pos hz]
theorem markLoop_end {k z : Int} {o out : ByteArray} (hz : ¬ 0 < z) (h : markLoop k o = markLoop z out) : markLoop k o = out := by
  rw [h, markLoop, dif_neg hz]
theorem mark_room {k z x : Int} {out : ByteArray} (hz : 0 < z) (h : out.size + z.toNat ≤ k.toNat) : (bstr [x] ++ out).size + (z.tdiv 10).toNat ≤ k.toNat := by
  have := mark_dec hz
  rw [ByteArray.size_append, bstr_one]; omega
theorem wrap_tdiv {k z : Int} {out : ByteArray} (hz : 0 < z) (h : out.size + z.toNat ≤ k.toNat) (hk : k ≤ 4611686018427387904) : IntKind.i64.wrap (z.tdiv 10) = z.tdiv 10 := by
  rw [Int.tdiv_eq_ediv_of_nonneg (by omega)]; exact wrap_id (by omega) (by omega)
theorem wrap_tmod {z : Int} (hz : 0 < z) : IntKind.i64.wrap (48 + z.tmod 10) = 48 + z.tmod 10 := by
  rw [Int.tmod_eq_emod_of_nonneg (by omega)]; exact wrap_id (by omega) (by omega)
theorem mark_sz {k z x : Int} {out : ByteArray} (hz : 0 < z) (h : out.size + z.toNat ≤ k.toNat) (hk : k ≤ 4611686018427387904) : (bstr [x]).size + out.size ≤ 9223372036854775807 := by
  rw [bstr_one]; omega
theorem mark_sz0 {k z : Int} {out : ByteArray} (h : out.size + z.toNat ≤ k.toNat) (hk : k ≤ 4611686018427387904) : (⟨#[109]⟩ : ByteArray).size + out.size ≤ 9223372036854775807 := by
  have : (⟨#[109]⟩ : ByteArray).size = 1 := rfl
  rw [this]; omega
theorem markLoop_size (k : Int) : ∀ out : ByteArray, (markLoop k out).size ≤ out.size + k.toNat := by
  induction hn : k.toNat using Nat.strongRecOn generalizing k with
  | _ m ih =>
    intro out
    rw [markLoop]
    split
    · rename_i hz
      have h1 := mark_dec hz
      have := ih (k.tdiv 10).toNat (by omega) (k.tdiv 10) rfl (bstr [IntKind.u8.wrap (48 + k.tmod 10)] ++ out)
      rw [ByteArray.size_append, bstr_one] at this
      omega
    · omega
def mkP (b : Int) : Pce := ⟨b, markText (b + 1)⟩
def mkS (b : Int) : Seg := ⟨b, b + 1, b + 2, b + 3, b + 4, b + 5, ⟨b + 6, b + 7, (b + 8).tmod 3 == 0, (b + 9).tmod 3 == 0, b + 10, b + 11⟩, markText (b + 12)⟩
def mkH (b : Int) : Hlf := ⟨⟨b, b + 1, b + 2⟩, b + 3, b + 4, ⟨b + 5, b + 6, (b + 7).tmod 3 == 0, (b + 8).tmod 3 == 0, b + 9, b + 10⟩, b + 11, b + 12⟩
def mkT (b : Int) : Tup := ⟨b, b + 1, b + 2⟩
/-- n marks, c numbers each, from k on. -/
def marks {α : Type} (mk : Int → α) (c k : Int) (n : Nat) : List α := (List.range n).map fun (i : Nat) => mk (k + c * (i : Int))
theorem marks_len {α : Type} (mk : Int → α) (c k : Int) (n : Nat) : (marks mk c k n).length = n := by simp [marks]
theorem marks_get {α : Type} {mk : Int → α} {c k : Int} {n i : Nat} {x : α} (h : (marks mk c k n)[i]? = some x) : x = mk (k + c * (i : Int)) := by
  have hi : i < n := by have := (List.getElem?_eq_some_iff.1 h).1; simpa [marks] using this
  simp [marks, hi] at h; exact h.symm
theorem mark_same {α : Type} {f : α → List Value} {mk : Int → α} {c k : Int} {l : List α} {i : Nat} {x : α} (h : l[i]? = some x) : ((marks mk c k i ++ l.drop i).map f) = ((marks mk c k i ++ l.drop i).map f).set i (f x) := by
  have hg : ((marks mk c k i ++ l.drop i).map f)[i]? = some (f x) := by
    rw [List.getElem?_map, List.getElem?_append_right (by rw [marks_len]; exact Nat.le_refl _), marks_len, Nat.sub_self, List.getElem?_drop]
    simp [h]
  obtain ⟨hlt, e⟩ := List.getElem?_eq_some_iff.1 hg
  rw [← e]; exact (List.set_getElem_self hlt).symm
theorem mark_next {α : Type} {f : α → List Value} {mk : Int → α} {c k : Int} {l : List α} {i : Nat} (h : i < l.length) : ((marks mk c k i ++ l.drop i).map f).set i (f (mk (k + c * (i : Int)))) = ((marks mk c k (i + 1) ++ l.drop (i + 1)).map f) := by
  rw [← List.map_set]
  congr 1
  rw [List.set_append_right _ _ (by rw [marks_len]; exact Nat.le_refl _), marks_len, Nat.sub_self]
  have hd : l.drop i = l[i] :: l.drop (i + 1) := List.drop_eq_getElem_cons h
  rw [hd, List.set_cons_zero]
  simp [marks, List.range_succ]
theorem mark_ln {α : Type} {f : α → List Value} {mk : Int → α} {c k : Int} {l : List α} {i : Nat} (h : i ≤ l.length) : ((marks mk c k i ++ l.drop i).map f).length = l.length := by
  simp [marks_len]; omega
theorem wk_fact0 {t : List (Nat × AV)} {b : List Box} {r : List (List Value)} {f g : Fact} {fs : List Fact} (h : f = g) : Wk ⟨t, b, r, f :: fs⟩ ⟨t, b, r, g :: fs⟩ := h ▸ Wk.refl _
theorem xw_fact0 {P : Program} {n : Nat} {w0 : World} {QX : Exit → St → Prop} {t : List (Nat × AV)} {b : List Box} {r : List (List Value)} {f g : Fact} {fs : List Fact} {c : Code} (h : f = g) (h1 : XW P n w0 QX c ⟨t, b, r, g :: fs⟩) : XW P n w0 QX c ⟨t, b, r, f :: fs⟩ := h ▸ h1
theorem marks_ne {α : Type} {f : α → List Value} {mk : Int → α} {c k : Int} {l : List α} (h : (marks mk c k l.length).map f ≠ []) : l.map f ≠ [] := fun e => by
  have : l = [] := by simpa using e
  subst this; exact h rfl
/-- A call that marks one slice of the caller's own. -/
theorem xcm_own {P : Program} {w0 : World} {fs : List Fact} {f : FuncId} {args : List Value} {B K : Nat} {v r : Value} {rs rs' : List (List Value)} (hne : rs' ≠ [] → rs ≠ [])
    (h : ∀ w, w0.heap.size ≤ w.heap.size → (∀ g ∈ fs, g.p w) → Calls P f args.toArray w fun e w' => e = .returned r ∧ Own w' B v K rs' ∧ Chgd (ownF B v K rs).blk w w') :
    XCM P w0 fs (ownF B v K rs).blk f args (α := Unit) (fun _ => r) (fun _ => [ownF B v K rs']) := fun w hw hf => (h w hw hf).mono fun e w' ⟨he, ho, hc⟩ =>
  ⟨(), he, fun g hg => by
    have e : g = ownF B v K rs' := (by simpa using hg)
    subst e; exact ⟨ho, fun b hb => .inl ⟨hne hb.1, hb.2⟩⟩, Apart.one _, hc⟩
theorem apart_fr {W : World} {B K : Nat} {v : Value} {rs : List (List Value)} : Apart [ownF B v K rs, frF W (ownF B v K rs).blk] := (Apart.one _).cons fun x hx b hb hxb => by
  have e : x = frF W (ownF B v K rs).blk := (by simpa using hx)
  subst e; exact hxb.2 hb
end Go.Proofs.Ytnmmhbhdcplfmaa
