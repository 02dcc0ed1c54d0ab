/- Amounts' texts, in plain lists of bytes: what is read. -/
import Derived.Lib.ParseIntBCases
import Derived.Lib.ItoaNum
import Derived.Lib.TrimByte
import Derived.Lib.CutLaws
namespace Go.Money
open Go.Lib

def isDig (c : UInt8) : Bool := decide (48 ≤ c.toNat) && decide (c.toNat ≤ 57)
def valD (acc : Nat) (l : List UInt8) : Nat := l.foldl (fun a c => 10 * a + (c.toNat - 48)) acc
def downB (l : List UInt8) : Bool := l.head? == some 45
def bareB (l : List UInt8) : List UInt8 := if downB l = true then l.tail else l
def digs (t : List UInt8) : List UInt8 := t.take (t.length - 3) ++ t.drop (t.length - 2)
def shapeB (t : List UInt8) : Bool := decide (4 ≤ t.length) && t[t.length - 3]? == some 46 && !(t.head? == some 48 && decide (4 < t.length)) && (digs t).all isDig
def lim (down : Bool) : Nat := if down = true then 9223372036854775808 else 9223372036854775807
def noneB (l : List UInt8) : Bool := !shapeB (bareB l) || (downB l && valD 0 (digs (bareB l)) == 0)
def parseV (l : List UInt8) : Int := if noneB l = true then 0 else if lim (downB l) < valD 0 (digs (bareB l)) then 0 else if downB l = true then -(valD 0 (digs (bareB l)) : Int) else (valD 0 (digs (bareB l)) : Int)
def parseE (l : List UInt8) : Int := if noneB l = true then 14 else if lim (downB l) < valD 0 (digs (bareB l)) then 5 else 0

theorem isDig_iff {c : UInt8} : isDig c = true ↔ 48 ≤ c.toNat ∧ c.toNat ≤ 57 := by simp [isDig]
theorem valD_nil (acc : Nat) : valD acc [] = acc := rfl
theorem valD_cons (acc : Nat) (c : UInt8) (r : List UInt8) : valD acc (c :: r) = valD (10 * acc + (c.toNat - 48)) r := by unfold valD; rw [List.foldl_cons]
theorem valD_ge (l : List UInt8) : ∀ (acc : Nat), acc ≤ valD acc l := by
  induction l with
  | nil => intro acc; rw [valD_nil]; exact Nat.le_refl _
  | cons c r ih =>
    intro acc
    rw [valD_cons]
    refine Nat.le_trans ?_ (ih (10 * acc + (c.toNat - 48)))
    omega
theorem valD_append (l m : List UInt8) : ∀ (acc : Nat), valD acc (l ++ m) = valD (valD acc l) m := by
  induction l with
  | nil => intro acc; rfl
  | cons c r ih => intro acc; rw [List.cons_append, valD_cons, valD_cons, ih]
theorem valD_zero (l : List UInt8) : l.all isDig = true → (valD 0 l = 0 ↔ ∀ c ∈ l, c = 48) := by
  induction l with
  | nil => intro _; simp [valD_nil]
  | cons c r ih =>
    intro h
    simp only [List.all_cons, Bool.and_eq_true] at h
    have hc := isDig_iff.1 h.1
    have hi := ih h.2
    have hge := valD_ge r (10 * 0 + (c.toNat - 48))
    rw [valD_cons]
    constructor
    · intro hv
      have h0 : c.toNat = 48 := by omega
      have hc48 : c = 48 := by apply UInt8.toNat_inj.1; simpa using h0
      rw [h0] at hv
      intro x hx
      rcases List.mem_cons.1 hx with rfl | hx
      · exact hc48
      · exact hi.1 hv x hx
    · intro hx
      have h1 := hx c List.mem_cons_self
      subst h1
      exact hi.2 fun y hy => hx y (List.mem_cons_of_mem _ hy)

theorem parseUintM_digs : ∀ (l : List UInt8) (acc : Nat), l.all isDig = true → acc ≤ 18446744073709551615 →
    parseUintM 18446744073709551615 acc l = if valD acc l ≤ 18446744073709551615 then .ok (valD acc l) else .range
  | [], acc, _, h => by rw [valD_nil, if_pos h]; rfl
  | c :: r, acc, h, ha => by
    simp only [List.all_cons, Bool.and_eq_true] at h
    have hc := isDig_iff.1 h.1
    have hge := valD_ge r (10 * acc + (c.toNat - 48))
    rw [valD_cons]
    unfold parseUintM
    rw [if_pos hc]
    by_cases h1 : 1844674407370955162 ≤ acc
    · rw [if_pos h1, if_neg (by omega)]
    · rw [if_neg h1]
      by_cases h2 : 18446744073709551615 < acc * 10 + (c.toNat - 48)
      · rw [if_pos h2, if_neg (by omega)]
      · rw [if_neg h2, Nat.mul_comm acc 10, parseUintM_digs r _ h.2 (by omega)]

theorem parseInt_digs {l : List UInt8} (hl : l ≠ []) (h : l.all isDig = true) :
    parseIntB 64 l = if valD 0 l ≤ lim false then .ok (valD 0 l : Int) else .range := by
  cases l with
  | nil => exact absurd rfl hl
  | cons c r =>
    have h' := h
    simp only [List.all_cons, Bool.and_eq_true] at h'
    have hc := isDig_iff.1 h'.1
    unfold parseIntB
    simp only
    rw [if_neg (by omega)]
    have hm := parseUintM_digs (c :: r) 0 h (by omega)
    simp only [parseUintB, if_neg hl]
    rw [show (2 ^ 64 - 1 : Nat) = 18446744073709551615 by decide, hm]
    have h45 : ¬ c.toNat = 45 := by omega
    generalize valD 0 (c :: r) = V
    simp only [lim, Bool.false_eq_true, if_false]
    by_cases h1 : V ≤ 18446744073709551615
    · simp only [if_pos h1, h45, not_false_eq_true, true_and, false_and, if_false]
      by_cases h2 : V ≤ 9223372036854775807
      · rw [if_pos h2, if_neg (by omega)]
      · rw [if_neg h2, if_pos (by omega)]
    · simp only [if_neg h1]
      rw [if_neg (by omega)]

theorem parseInt_neg {l : List UInt8} (hl : l ≠ []) (h : l.all isDig = true) :
    parseIntB 64 (45 :: l) = if valD 0 l ≤ lim true then .ok (-(valD 0 l : Int)) else .range := by
  unfold parseIntB
  simp only
  rw [if_pos (by decide)]
  have hm := parseUintM_digs l 0 h (by omega)
  simp only [parseUintB, if_neg hl]
  rw [show (2 ^ 64 - 1 : Nat) = 18446744073709551615 by decide, hm]
  have h45 : (45 : UInt8).toNat = 45 := rfl
  generalize valD 0 l = V
  simp only [lim, if_true]
  by_cases h1 : V ≤ 18446744073709551615
  · simp only [if_pos h1, h45, not_true_eq_false, false_and, if_false, true_and, if_true]
    by_cases h2 : V ≤ 9223372036854775808
    · rw [if_pos h2, if_neg (by omega)]
    · rw [if_neg h2, if_pos (by omega)]
  · simp only [if_neg h1]
    rw [if_neg (by omega)]

theorem dropWhile_nil {p : UInt8 → Bool} {l : List UInt8} : l.dropWhile p = [] ↔ ∀ x ∈ l, p x = true := by
  induction l with
  | nil => simp
  | cons a l ih =>
    by_cases h : p a = true
    · simp [h, ih]
    · simp [h]
/-- Trim at zeros leaves nothing just if there is nothing but zeros. -/
theorem trimB_nil (l : List UInt8) (c : UInt8) : trimB l c = [] ↔ ∀ x ∈ l, x = c := by
  unfold trimB trimLeftB trimRightB
  constructor
  · intro h
    have h1 : ∀ x ∈ (l.reverse.dropWhile (· == c)).reverse, (x == c) = true := dropWhile_nil.1 h
    by_cases h2 : l.reverse.dropWhile (· == c) = []
    · intro x hx
      have := dropWhile_nil.1 h2 x (by simpa using hx)
      simpa using this
    · have h3 := List.head_dropWhile_not (· == c) h2
      have h4 := h1 _ (List.mem_reverse.2 (List.head_mem h2))
      rw [h4] at h3; cases h3
  · intro h
    have : l.reverse.dropWhile (· == c) = [] := dropWhile_nil.2 fun x hx => by simpa using h x (by simpa using hx)
    rw [this]; rfl
end Go.Money
