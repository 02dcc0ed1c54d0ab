/- Amounts' texts, in plain lists of bytes: where a text is cut. -/
import Derived.Test.YtchbobndobpocaaDoorMp5
import Derived.Lib.Bytealg
import Derived.Lib.MapLaws
import Derived.Lib.DecodeN
namespace Go.Money
open Go.Lib

theorem idx_of {c : UInt8} : ∀ (W r : List UInt8), c ∉ W → indexByte (W ++ c :: r) c = W.length
  | [], r, _ => by simp [indexByte]
  | b :: W, r, h => by
    have hb : (b == c) = false := beq_eq_false_iff_ne.2 fun e => h (by rw [e]; exact List.mem_cons_self)
    have ih := idx_of W r fun hm => h (List.mem_cons_of_mem _ hm)
    rw [List.cons_append, indexByte, if_neg (by simp [hb]), ih, if_neg (by simp)]
    simp
theorem idx_split {c : UInt8} : ∀ (l : List UInt8), 0 ≤ indexByte l c → ∃ W r, l = W ++ c :: r ∧ c ∉ W ∧ indexByte l c = W.length
  | [], h => by simp [indexByte] at h
  | b :: l, h => by
    unfold indexByte at h ⊢
    by_cases hb : (b == c) = true
    · rw [if_pos hb]
      have : b = c := by simpa using hb
      exact ⟨[], l, by rw [this]; rfl, by simp, rfl⟩
    · rw [if_neg hb] at h ⊢
      by_cases hi : (indexByte l c == -1) = true
      · rw [if_pos hi] at h; omega
      · rw [if_neg hi] at h ⊢
        have hge := indexByte_ge l c
        have hne : indexByte l c ≠ -1 := fun e => hi (by rw [e]; rfl)
        obtain ⟨W, r, h1, h2, h3⟩ := idx_split (c := c) l (by omega)
        refine ⟨b :: W, r, by rw [h1]; rfl, fun hm => ?_, by rw [h3]; simp⟩
        rcases List.mem_cons.1 hm with e | e
        · exact hb (by rw [e]; simp)
        · exact h2 e

def cutIs (t : List UInt8) : Bool := decide (0 ≤ indexByte t 46)
def cutW (t : List UInt8) : List UInt8 := if cutIs t = true then t.take (indexByte t 46).toNat else t
def cutC (t : List UInt8) : List UInt8 := if cutIs t = true then t.drop ((indexByte t 46).toNat + 1) else []
theorem cut_of {W r : List UInt8} (h : (46 : UInt8) ∉ W) : cutIs (W ++ 46 :: r) = true ∧ cutW (W ++ 46 :: r) = W ∧ cutC (W ++ 46 :: r) = r := by
  have hi := idx_of W r h
  have h1 : cutIs (W ++ 46 :: r) = true := by unfold cutIs; rw [hi]; simp
  refine ⟨h1, ?_, ?_⟩
  · unfold cutW; rw [if_pos h1, hi]; simp
  · unfold cutC; rw [if_pos h1, hi, Int.toNat_natCast, List.drop_append, List.drop_eq_nil_of_le (by omega)]; simp
theorem cut_at {t : List UInt8} (h : cutIs t = true) : t = cutW t ++ 46 :: cutC t := by
  unfold cutIs at h
  obtain ⟨W, r, h1, h2, _⟩ := idx_split t (by simpa using h)
  obtain ⟨_, h3, h4⟩ := cut_of (r := r) h2
  rw [h1, h3, h4]
theorem dig_ne {W : List UInt8} (h : W.all isDig = true) : (46 : UInt8) ∉ W := fun hm => by
  have := isDig_iff.1 (List.all_eq_true.1 h _ hm)
  have e : (46 : UInt8).toNat = 46 := rfl
  omega
theorem digs_app (W : List UInt8) (a b : UInt8) : digs (W ++ [46, a, b]) = W ++ [a, b] := by
  unfold digs
  simp only [List.length_append, List.length_cons, List.length_nil]
  rw [show W.length + (0 + 1 + 1 + 1) - 3 = W.length by omega, show W.length + (0 + 1 + 1 + 1) - 2 = W.length + 1 by omega, List.take_left, List.drop_append, List.drop_eq_nil_of_le (by omega)]
  simp
/-- A text has an amount's shape just if it does where it is cut. -/
theorem shape_cut (t : List UInt8) : shapeB t = true ↔ cutIs t = true ∧ cutW t ≠ [] ∧ (cutC t).length = 2 ∧ ((cutW t).head? = some 48 → (cutW t).length ≤ 1) ∧ (cutW t ++ cutC t).all isDig = true := by
  rw [shapeB_iff]
  constructor
  · rintro ⟨W, a, b, rfl, w0, w1, w2, w3, w4, _⟩
    obtain ⟨h1, h2, h3⟩ := cut_of (r := [a, b]) (dig_ne w1)
    have e : W ++ [46, a, b] = W ++ 46 :: [a, b] := rfl
    rw [e, h1, h2, h3]
    exact ⟨rfl, w0, rfl, w4, by simp [w1, w2, w3]⟩
  · rintro ⟨h1, h2, h3, h4, h5⟩
    obtain ⟨a, b, hab⟩ : ∃ a b, cutC t = [a, b] := by
      match h : cutC t, h3 with
      | [a, b], _ => exact ⟨a, b, rfl⟩
    have ht := cut_at h1
    rw [hab] at ht h5
    simp only [List.all_append, List.all_cons, List.all_nil, Bool.and_true, Bool.and_eq_true] at h5
    refine ⟨cutW t, a, b, ht, h2, h5.1, h5.2.1, h5.2.2, h4, ?_⟩
    exact (congrArg digs ht).trans (digs_app _ a b)
theorem digs_cut {t : List UInt8} (h : shapeB t = true) : digs t = cutW t ++ cutC t := by
  obtain ⟨W, a, b, ht, w0, w1, w2, w3, w4, w5⟩ := shapeB_iff.1 h
  obtain ⟨_, h2, h3⟩ := cut_of (r := [a, b]) (dig_ne w1)
  rw [w5, ht]
  show W ++ [a, b] = cutW (W ++ 46 :: [a, b]) ++ cutC (W ++ 46 :: [a, b])
  rw [h2, h3]

/-- A rune that is a digit is a byte that is one. -/
theorem rune_dig (l : List UInt8) (p : Nat) (c : UInt8) (hc : l[p]? = some c) :
    ((48 ≤ ((Utf8.decode ⟨l.toArray⟩ p).1 : Int) ∧ ((Utf8.decode ⟨l.toArray⟩ p).1 : Int) ≤ 57) ↔ isDig c = true) ∧ (isDig c = true → (Utf8.decode ⟨l.toArray⟩ p).2 = 1) := by
  have hp := (List.getElem?_eq_some_iff.1 hc).1
  have hg : (ByteArray.mk l.toArray).get! p = c := by
    show l.toArray[p]! = c
    rw [getElem!_pos l.toArray p (by simpa using hp)]
    simp [(List.getElem?_eq_some_iff.1 hc).2]
  have hlt := c.toNat_lt
  rw [decode_at, hg, isDig_iff]
  rcases decodeN_shape (ByteArray.size ⟨l.toArray⟩ - p) c.toNat ((ByteArray.mk l.toArray).get! (p + 1)).toNat ((ByteArray.mk l.toArray).get! (p + 2)).toNat ((ByteArray.mk l.toArray).get! (p + 3)).toNat with ⟨h1, h2⟩ | ⟨h1, _, _, h4, h2⟩ | ⟨h1, _, _, _, h4, _, h2⟩ | ⟨h1, _, _, _, _, h4, _, h2⟩ | h2
  · rw [h2]; simp only; exact ⟨by omega, fun _ => trivial⟩
  · rw [h2]; simp only; omega
  · rw [h2]; simp only; omega
  · rw [h2]; simp only; omega
  · rw [h2]; simp only
    by_cases h : c.toNat < 128
    · have h3 : decodeN (ByteArray.size ⟨l.toArray⟩ - p) c.toNat ((ByteArray.mk l.toArray).get! (p + 1)).toNat ((ByteArray.mk l.toArray).get! (p + 2)).toNat ((ByteArray.mk l.toArray).get! (p + 3)).toNat = (c.toNat, 1) := by unfold decodeN; rw [if_pos h]
      rw [h3] at h2
      have := congrArg Prod.fst h2
      simp only at this
      omega
    · omega
end Go.Money
