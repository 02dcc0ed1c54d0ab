/- Amounts' texts, in plain lists of bytes: the document's loop. -/
import Derived.Test.YtchbobndobpocaaDoorMp7
namespace Go.Money

def overB (d ov : Bool) (u k : Int) : Bool := ov || decide (922337203685477580 < u) || (decide (u = 922337203685477580) && decide (56 < k)) || (decide (u = 922337203685477580) && decide (k = 56) && !d)
def fo (d : Bool) (l : List UInt8) : Bool × Int := l.foldl (fun p c => if overB d p.1 p.2 c.toNat = true then (true, p.2) else (false, 10 * p.2 + (c.toNat - 48))) (false, 0)
def someB (l : List UInt8) : Bool := l.any (· != 48)
theorem fo_nil (d : Bool) : fo d [] = (false, 0) := rfl
theorem fo_snoc (d : Bool) (l : List UInt8) (c : UInt8) : fo d (l ++ [c]) = if overB d (fo d l).1 (fo d l).2 c.toNat = true then (true, (fo d l).2) else (false, 10 * (fo d l).2 + (c.toNat - 48)) := by
  unfold fo; rw [List.foldl_append]; rfl
theorem someB_snoc (l : List UInt8) (c : UInt8) : someB (l ++ [c]) = (someB l || c != 48) := by simp [someB]
theorem someB_val {l : List UInt8} (h : l.all isDig = true) : someB l = false ↔ valD 0 l = 0 := by
  rw [valD_zero l h]
  simp [someB]
theorem fo_facts (d : Bool) (n : Nat) : ∀ (l : List UInt8), l.length = n → l.all isDig = true →
    ((fo d l).1 = true ↔ lim d < valD 0 l) ∧ ((fo d l).1 = false → (fo d l).2 = valD 0 l) ∧ 0 ≤ (fo d l).2 ∧ (fo d l).2 ≤ 9223372036854775808 := by
  induction n with
  | zero =>
    intro l hl _
    obtain rfl := List.length_eq_zero_iff.1 hl
    rw [fo_nil, valD_nil]
    exact ⟨by simp, fun _ => rfl, by decide, by decide⟩
  | succ n ih =>
    intro l hl hd
    obtain ⟨V, c, rfl⟩ : ∃ V c, l = V ++ [c] := ⟨l.dropLast, l.getLast (by intro e; rw [e] at hl; simp at hl), (List.dropLast_concat_getLast _).symm⟩
    simp only [List.all_append, List.all_cons, List.all_nil, Bool.and_true, Bool.and_eq_true] at hd
    obtain ⟨h1, h2, h3, h4⟩ := ih V (by simpa using hl) hd.1
    have hc := isDig_iff.1 hd.2
    rw [fo_snoc, valD_snoc]
    generalize valD 0 V = v at *
    generalize fo d V = p at *
    obtain ⟨ov, u⟩ := p
    simp only at *
    have ho : overB d ov u c.toNat = true ↔ lim d < 10 * v + (c.toNat - 48) := by
      unfold overB lim at *
      cases ov with
      | true => simp only [Bool.true_or, true_iff]; have := h1.1 rfl; split at this <;> split <;> omega
      | false =>
        have hv := h2 rfl
        have hl : ¬ (if d = true then 9223372036854775808 else 9223372036854775807) < v := fun h => by have := h1.2 h; cases this
        subst hv
        cases d <;> simp only [Bool.false_or, Bool.or_eq_true, Bool.and_eq_true, decide_eq_true_eq, Bool.not_true, Bool.not_false, Bool.false_eq_true, and_false, or_false, and_true, if_true, if_false] at * <;> omega
    by_cases hb : overB d ov u c.toNat = true
    · rw [if_pos hb]
      exact ⟨⟨fun _ => ho.1 hb, fun _ => rfl⟩, fun h => (by cases h), h3, h4⟩
    · rw [if_neg hb]
      have hn : ¬ lim d < 10 * v + (c.toNat - 48) := fun h => hb (ho.2 h)
      have hov : ov = false := by
        cases ov with
        | false => rfl
        | true => exact absurd (by unfold overB; simp) hb
      have hv := h2 hov
      refine ⟨⟨fun h => (by cases h), fun h => absurd h hn⟩, fun _ => ?_, ?_, ?_⟩
      · simp only; omega
      · simp only; omega
      · simp only
        unfold lim at hn
        split at hn <;> omega
end Go.Money
