/- Plain definitions: segments that arrive (no program in sight). -/
import Derived.Test.YtnmmhbhdcplfmaaD0
import Derived.Test.YtnmmhbhdcplfmaaXR
namespace Go.Proofs.Ytnmmhbhdcplfmaa
open Go.RowKit
def slotAt (l : List Int) (i : Nat) : Int := l.getD i (-1)
def putText (l : List Int) (off : Nat) (t : ByteArray) : Nat → List Int
  | 0 => l
  | k + 1 => (putText l off t k).set (off + k) (byteAt t k)
def putHeld (l : List Int) : List Pce → List Int
  | [] => l
  | p :: ps => putHeld (putText l p.off.toNat p.text p.text.size) ps
def slotsOf (r : Rcv) : List Int := putHeld (List.replicate 33 (-1)) r.held
def restOf (n : Int) : Int := n % 4294967296
def textStep (r : Rcv) (seq : Int) (t : ByteArray) (l : List Int) (k : Nat) : List Int :=
  if restOf (seqAdd seq k - r.next) < windowOf r ∧ (r.fin < 0 ∨ restOf (seqAdd seq k - r.next) < r.fin) ∧ slotAt l (restOf (seqAdd seq k - r.next)).toNat < 0 then l.set (restOf (seqAdd seq k - r.next)).toNat (byteAt t k) else l
def textN (r : Rcv) (seq : Int) (t : ByteArray) (l : List Int) : Nat → List Int
  | 0 => l
  | k + 1 => textStep r seq t (textN r seq t l k) k
def freeFrom (l : List Int) (i : Nat) : Bool := (l.drop i).all fun x => decide (x < 0)
def addByte (acc : List Pce) (j : Nat) (x : Int) : List Pce := match acc.getLast? with
  | some p => if p.off + (p.text.size : Int) = (j : Int) then acc.dropLast ++ [⟨p.off, p.text ++ bstr [x]⟩] else acc ++ [⟨(j : Int), bstr [x]⟩]
  | none => [⟨(j : Int), bstr [x]⟩]
def pcs (acc : List Pce) (j : Nat) : List Int → List Pce
  | [] => acc
  | x :: xs => pcs (if x < 0 then acc else addByte acc j x) (j + 1) xs
def filled (l : List Int) : Nat := (l.takeWhile fun x => decide (0 ≤ x)).length
def allIn (r : Rcv) (seq : Int) (t : ByteArray) : List Int := textN r seq t (slotsOf r) t.size
def offN (r : Rcv) (seq : Int) (k : Nat) : Nat := (restOf (seqAdd seq k - r.next)).toNat
def finIn (r : Rcv) (seq : Int) (t : ByteArray) (fin : Bool) : Int :=
  if fin && (decide (r.fin < 0) && (decide ((offN r seq t.size : Int) ≤ windowOf r) && freeFrom (allIn r seq t) (offN r seq t.size))) then (offN r seq t.size : Int) else r.fin
def finOut (r : Rcv) (seq : Int) (t : ByteArray) (fin : Bool) : Int := if 0 ≤ finIn r seq t fin then finIn r seq t fin - (filled (allIn r seq t) : Int) else finIn r seq t fin
def arrived (r : Rcv) (seq : Int) (t : ByteArray) (fin : Bool) : Rcv :=
  if receiverOk r && !r.done then
    (if 3 < (pcs [] 0 ((allIn r seq t).drop (filled (allIn r seq t)))).length then r
     else if finOut r seq t fin = 0 then ⟨seqAdd (seqAdd r.next (filled (allIn r seq t))) 1, r.data ++ bstr ((allIn r seq t).take (filled (allIn r seq t))), pcs [] 0 ((allIn r seq t).drop (filled (allIn r seq t))), -1, true⟩
     else ⟨seqAdd r.next (filled (allIn r seq t)), r.data ++ bstr ((allIn r seq t).take (filled (allIn r seq t))), pcs [] 0 ((allIn r seq t).drop (filled (allIn r seq t))), finOut r seq t fin, r.done⟩)
  else r
theorem offN_eq (r : Rcv) (seq : Int) (k : Nat) : (seqAdd seq (k : Int) - r.next) % 4294967296 = ((offN r seq k : Nat) : Int) := by
  unfold offN restOf
  have := Int.emod_nonneg (seqAdd seq (k : Int) - r.next) (b := 4294967296) (by omega)
  omega
theorem seqAdd_in (a n : Int) : 0 ≤ seqAdd a n ∧ seqAdd a n ≤ 4294967295 := by unfold seqAdd; omega
theorem textStep_eq (r : Rcv) (seq : Int) (t : ByteArray) (l : List Int) (k : Nat) : textStep r seq t l k = if ((offN r seq k : Nat) : Int) < windowOf r ∧ (r.fin < 0 ∨ ((offN r seq k : Nat) : Int) < r.fin) ∧ slotAt l (offN r seq k) < 0 then l.set (offN r seq k) (byteAt t k) else l := by
  unfold textStep
  have : restOf (seqAdd seq (k : Int) - r.next) = ((offN r seq k : Nat) : Int) := offN_eq r seq k
  rw [this]; rfl
theorem slotAt_of {l : List Int} {i : Nat} {x : Int} (h : l[i]? = some x) : slotAt l i = x := by unfold slotAt; rw [List.getD_eq_getElem?_getD, h]; rfl
theorem freeFrom_step {l : List Int} {i : Nat} {x : Int} (h : l[i]? = some x) : freeFrom l i = (decide (x < 0) && freeFrom l (i + 1)) := by
  unfold freeFrom
  rw [List.drop_eq_getElem_cons (List.getElem?_eq_some_iff.1 h).1, List.all_cons, (List.getElem?_eq_some_iff.1 h).2]
theorem freeFrom_end (l : List Int) : freeFrom l l.length = true := by unfold freeFrom; rw [List.drop_length]; rfl
theorem init_step {l : List Int} {k : Nat} (h : l.take k = List.replicate k (-1)) (hk : k < l.length) : (l.set k (-1)).take (k + 1) = List.replicate (k + 1) (-1) := by
  rw [List.take_succ_eq_append_getElem (by simpa using hk), List.getElem_set_self, List.take_set_of_le (Nat.le_refl k), h, ← List.replicate_succ']
theorem putText_len (l : List Int) (off : Nat) (t : ByteArray) : ∀ k, (putText l off t k).length = l.length
  | 0 => rfl
  | k + 1 => by simp only [putText, List.length_set]; exact putText_len l off t k
theorem putHeld_len : ∀ (ps : List Pce) (l : List Int), (putHeld l ps).length = l.length
  | [], _ => rfl
  | p :: ps, l => by simp only [putHeld]; rw [putHeld_len ps, putText_len]
theorem slotsOf_len (r : Rcv) : (slotsOf r).length = 33 := by unfold slotsOf; rw [putHeld_len, List.length_replicate]
theorem textN_len (r : Rcv) (seq : Int) (t : ByteArray) (l : List Int) : ∀ k, (textN r seq t l k).length = l.length
  | 0 => rfl
  | k + 1 => by
    simp only [textN, textStep]; split
    · rw [List.length_set]; exact textN_len r seq t l k
    · exact textN_len r seq t l k
theorem allIn_len (r : Rcv) (seq : Int) (t : ByteArray) : (allIn r seq t).length = 33 := by unfold allIn; rw [textN_len, slotsOf_len]
theorem set_le {l : List Int} {i : Nat} {v : Int} (h : ∀ x ∈ l, x ≤ 255) (hv : v ≤ 255) : ∀ x ∈ l.set i v, x ≤ 255 := fun x hx => by
  rcases List.mem_or_eq_of_mem_set hx with h1 | h1
  · exact h x h1
  · omega
theorem putText_le {l : List Int} {off : Nat} {t : ByteArray} (h : ∀ x ∈ l, x ≤ 255) : ∀ k, ∀ x ∈ putText l off t k, x ≤ 255
  | 0 => h
  | k + 1 => by simp only [putText]; exact set_le (putText_le h k) (byteAt_rng t k).2
theorem putHeld_le : ∀ (ps : List Pce) {l : List Int}, (∀ x ∈ l, x ≤ 255) → ∀ x ∈ putHeld l ps, x ≤ 255
  | [], _, h => h
  | p :: ps, _, h => by simp only [putHeld]; exact putHeld_le ps (putText_le h _)
theorem slotsOf_le (r : Rcv) : ∀ x ∈ slotsOf r, x ≤ 255 := by
  unfold slotsOf; exact putHeld_le _ (fun x hx => by have := (List.mem_replicate.1 hx).2; omega)
theorem textN_le {r : Rcv} {seq : Int} {t : ByteArray} {l : List Int} (h : ∀ x ∈ l, x ≤ 255) : ∀ k, ∀ x ∈ textN r seq t l k, x ≤ 255
  | 0 => h
  | k + 1 => by
    simp only [textN, textStep]; split
    · exact set_le (textN_le h k) (byteAt_rng t k).2
    · exact textN_le h k
theorem allIn_le (r : Rcv) (seq : Int) (t : ByteArray) : ∀ x ∈ allIn r seq t, x ≤ 255 := textN_le (slotsOf_le r) _
theorem filled_stop {l : List Int} {k : Nat} (hk : k ≤ l.length) (h : ∀ x ∈ l.take k, 0 ≤ x) (he : ∀ x, l[k]? = some x → x < 0) : filled l = k := by
  unfold filled
  induction l generalizing k with
  | nil => simp at hk; subst hk; rfl
  | cons a l ih =>
    cases k with
    | zero => rw [List.takeWhile_cons, if_neg (by have := he a rfl; simp; omega)]; rfl
    | succ k =>
      rw [List.takeWhile_cons, if_pos (by have := h a (by simp); simpa using this), List.length_cons, ih (by simpa using hk) (fun x hx => h x (by simp [hx])) (fun x hx => he x (by simpa using hx))]
theorem take_more {l : List Int} {k : Nat} {x : Int} (hx : l[k]? = some x) : l.take (k + 1) = l.take k ++ [x] := by rw [List.take_add_one, hx]; rfl
theorem take_pos {l : List Int} {k : Nat} {x : Int} (h : ∀ y ∈ l.take k, 0 ≤ y) (hx : l[k]? = some x) (h0 : 0 ≤ x) : ∀ y ∈ l.take (k + 1), 0 ≤ y := fun y hy => by
  rw [take_more hx] at hy
  rcases List.mem_append.1 hy with hy | hy
  · exact h y hy
  · rw [List.mem_singleton] at hy; omega
theorem bstr_len (l : List Int) : (bstr l).size = l.length := by
  have key : ∀ (l : List Int) (b : ByteArray), (l.foldl (fun r n => r.push (UInt8.ofNat n.toNat)) b).size = b.size + l.length := by
    intro l
    induction l with
    | nil => intro b; rfl
    | cons x l ih => intro b; rw [List.foldl_cons, ih, ByteArray.size_push, List.length_cons]; omega
  have := key l ByteArray.empty
  unfold bstr; rw [this]; show 0 + l.length = l.length; omega
theorem addByte_set {out : List Pce} {j : Nat} {x : Int} {p : Pce} (h : out[out.length - 1]? = some p) (e : p.off + (p.text.size : Int) = (j : Int)) : addByte out j x = out.set (out.length - 1) ⟨p.off, p.text ++ bstr [x]⟩ := by
  have hl : out.getLast? = some p := by rw [List.getLast?_eq_getElem?]; exact h
  unfold addByte; rw [hl]; dsimp only; rw [if_pos e]
  have hne : out ≠ [] := fun e => by subst e; simp at h
  obtain ⟨a, b, rfl⟩ : ∃ a b, out = a ++ [b] := ⟨out.dropLast, out.getLast hne, (List.dropLast_concat_getLast hne).symm⟩
  simp
theorem addByte_far {out : List Pce} {j : Nat} {x : Int} {p : Pce} (h : out[out.length - 1]? = some p) (e : ¬ p.off + (p.text.size : Int) = (j : Int)) : addByte out j x = out ++ [⟨(j : Int), bstr [x]⟩] := by
  have hl : out.getLast? = some p := by rw [List.getLast?_eq_getElem?]; exact h
  unfold addByte; rw [hl]; dsimp only; rw [if_neg e]
theorem addByte_nil {out : List Pce} {j : Nat} {x : Int} (h : out.length = 0) : addByte out j x = out ++ [⟨(j : Int), bstr [x]⟩] := by
  rw [List.length_eq_zero_iff] at h; subst h; rfl
theorem addByte_bd {out : List Pce} {j : Nat} {x : Int} (h : ∀ p ∈ out, 0 ≤ p.off ∧ p.off + (p.text.size : Int) ≤ (j : Int)) : ∀ p ∈ addByte out j x, 0 ≤ p.off ∧ p.off + (p.text.size : Int) ≤ (j : Int) + 1 := by
  have h1 : (bstr [x]).size = 1 := bstr_len [x]
  have hnew : ∀ p ∈ out ++ [(⟨(j : Int), bstr [x]⟩ : Pce)], 0 ≤ p.off ∧ p.off + (p.text.size : Int) ≤ (j : Int) + 1 := fun p hp => by
    rcases List.mem_append.1 hp with hp | hp
    · have := h p hp; omega
    · rw [List.mem_singleton] at hp; subst hp; dsimp only; omega
  cases hl : out[out.length - 1]? with
  | none =>
    rw [addByte_nil (by rw [List.getElem?_eq_none_iff] at hl; omega)]; exact hnew
  | some q =>
    by_cases e : q.off + (q.text.size : Int) = (j : Int)
    · rw [addByte_set hl e]
      intro p hp
      have hq := h q (List.mem_of_getElem? hl)
      rcases List.mem_or_eq_of_mem_set hp with hp | hp
      · have := h p hp; omega
      · subst hp; dsimp only; rw [ByteArray.size_append, h1]; omega
    · rw [addByte_far hl e]; exact hnew
theorem pcs_step {l : List Int} {out : List Pce} {i m : Nat} {x : Int} (h : l[i]? = some x) (hm : m ≤ i) : pcs out (i - m) (l.drop i) = pcs (if x < 0 then out else addByte out (i - m) x) (i + 1 - m) (l.drop (i + 1)) := by
  rw [List.drop_eq_getElem_cons (List.getElem?_eq_some_iff.1 h).1, (List.getElem?_eq_some_iff.1 h).2, pcs, show i - m + 1 = i + 1 - m by omega]
theorem u8_id {x : Int} (h0 : 0 ≤ x) (h1 : x ≤ 255) : IntKind.u8.wrap x = x := by
  have e : IntKind.u8.wrap x = x % 256 := by simp [IntKind.wrap, IntKind.bits, IntKind.signed]
  rw [e]; omega
theorem heldOk_in (m : Int) : ∀ (l : List Pce) (e : Int), 0 ≤ e → heldOk m e l = true → ∀ p ∈ l, 0 < p.off ∧ p.off + (p.text.size : Int) ≤ m
  | [], _, _, _, p, hp => by simp at hp
  | q :: l, e, he, h, p, hp => by
    simp only [heldOk, Bool.and_eq_true, decide_eq_true_eq, Bool.not_eq_true'] at h
    have hq : e < q.off ∧ q.off + (q.text.size : Int) ≤ m := by
      obtain ⟨h1, h2⟩ := h
      simp at h1 h2; omega
    rcases List.mem_cons.1 hp with rfl | hp
    · omega
    · exact heldOk_in m l (q.off + (q.text.size : Int)) (by omega) (by simp_all) p hp
theorem arrived_over {r : Rcv} {seq : Int} {t : ByteArray} {fin : Bool} (h1 : receiverOk r = true) (h2 : r.done = false) (h3 : 3 < (pcs [] 0 ((allIn r seq t).drop (filled (allIn r seq t)))).length) : arrived r seq t fin = r := by
  unfold arrived; rw [if_pos (by rw [h1, h2]; rfl), if_pos h3]
theorem rok_facts {r : Rcv} (h : receiverOk r = true) : r.data.size ≤ 32 ∧ r.held.length ≤ 3 ∧ (0 ≤ r.next ∧ r.next ≤ 4294967295) ∧ (-1 ≤ r.fin ∧ r.fin ≤ windowOf r) ∧ r.fin ≠ 0 ∧ ∀ p ∈ r.held, 0 < p.off ∧ p.off + (p.text.size : Int) ≤ 32 := by
  unfold receiverOk at h
  simp only [Bool.and_eq_true] at h
  obtain ⟨h1, h2, h3⟩ := h
  obtain ⟨g1, g2, g3, g4, g5⟩ := rcvPre_iff.1 h1
  have hw := windowOf_bd r
  have g4' := inB_tt.1 g4
  refine ⟨g2, g3, by (have g1b : inB r.next 0 4294967295 = true := by simp [wordOk] at g1; exact g1.2); exact inB_tt.1 g1b, g4', g5, fun p hp => ?_⟩
  have := heldOk_in _ _ _ (Int.le_refl 0) h2 p hp
  split at this <;> omega
end Go.Proofs.Ytnmmhbhdcplfmaa
