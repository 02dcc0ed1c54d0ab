/- Shares, in plain numbers: how they come about. -/
import Derived.Test.YtchbobndobpocaaDoorMp6
namespace Go.Money
def topL : Int → List (Int × Int) → Int
  | n, [] => n
  | n, (w, _) :: l => if 0 < w ∧ 0 < n then topL (n - 1) l else topL n l
theorem topUp_snoc : ∀ (l : List (Int × Int)) (n w q : Int), topUp n (l ++ [(w, q)]) = topUp n l ++ [if 0 < w ∧ 0 < topL n l then q + 1 else q]
  | [], n, w, q => by
    show (if 0 < w ∧ 0 < n then [q + 1] else [q]) = [if 0 < w ∧ 0 < n then q + 1 else q]
    by_cases h : 0 < w ∧ 0 < n
    · rw [if_pos h, if_pos h]
    · rw [if_neg h, if_neg h]
  | (v, p) :: l, n, w, q => by
    simp only [List.cons_append, topUp, topL]
    split
    · rw [topUp_snoc l]; rfl
    · rw [topUp_snoc l]; rfl
theorem topL_snoc : ∀ (l : List (Int × Int)) (n w q : Int), topL n (l ++ [(w, q)]) = if 0 < w ∧ 0 < topL n l then topL n l - 1 else topL n l
  | [], n, w, q => by
    show (if 0 < w ∧ 0 < n then n - 1 else n) = _
    by_cases h : 0 < w ∧ 0 < n
    · rw [if_pos h]; exact (if_pos h).symm
    · rw [if_neg h]; exact (if_neg h).symm
  | (v, p) :: l, n, w, q => by
    simp only [List.cons_append, topL]
    split
    · rw [topL_snoc l]
    · rw [topL_snoc l]
theorem topL_range : ∀ (l : List (Int × Int)) (n : Int), 0 ≤ n → 0 ≤ topL n l ∧ topL n l ≤ n
  | [], n, h => by simp [topL, h]
  | (v, p) :: l, n, h => by
    simp only [topL]
    split
    · have := topL_range l (n - 1) (by omega); omega
    · exact topL_range l n h
/-- A list under way: the first i have been seen to. -/
def half (n : Int) (ps : List (Int × Int)) (i : Nat) : List Int := topUp n (ps.take i) ++ (ps.drop i).map (·.2)
theorem half_zero (n : Int) (ps : List (Int × Int)) : half n ps 0 = ps.map (·.2) := by simp [half, topUp]
theorem half_all (n : Int) (ps : List (Int × Int)) : half n ps ps.length = topUp n ps := by simp [half]
theorem half_len (n : Int) (ps : List (Int × Int)) (i : Nat) (h : i ≤ ps.length) : (half n ps i).length = ps.length := by
  unfold half; rw [List.length_append, topUp_len, List.length_take, List.length_map, List.length_drop]; omega
theorem half_get (n : Int) (ps : List (Int × Int)) (i : Nat) (w q : Int) (h : ps[i]? = some (w, q)) : (half n ps i)[i]? = some q := by
  have hi := (List.getElem?_eq_some_iff.1 h).1
  unfold half
  rw [List.getElem?_append_right (by rw [topUp_len, List.length_take]; omega), topUp_len, List.length_take, show i - min i ps.length = 0 by omega, List.getElem?_map, List.getElem?_drop, Nat.add_zero, h]
  rfl
theorem half_next (n : Int) (ps : List (Int × Int)) (i : Nat) (w q : Int) (h : ps[i]? = some (w, q)) :
    (0 < w ∧ 0 < topL n (ps.take i) → (half n ps i).set i (q + 1) = half n ps (i + 1) ∧ topL n (ps.take (i + 1)) = topL n (ps.take i) - 1) ∧
    (¬ (0 < w ∧ 0 < topL n (ps.take i)) → half n ps i = half n ps (i + 1) ∧ topL n (ps.take (i + 1)) = topL n (ps.take i)) := by
  have hi := (List.getElem?_eq_some_iff.1 h).1
  have ht : ps.take (i + 1) = ps.take i ++ [(w, q)] := by rw [List.take_add_one, h]; rfl
  have hd : ps.drop i = (w, q) :: ps.drop (i + 1) := by
    rw [List.drop_eq_getElem_cons hi]; congr 1; exact (List.getElem?_eq_some_iff.1 h).2
  have hl : (topUp n (ps.take i)).length = i := by rw [topUp_len, List.length_take]; omega
  have e : half n ps i = topUp n (ps.take i) ++ q :: (ps.drop (i + 1)).map (·.2) := by unfold half; rw [hd]; rfl
  constructor
  · intro hc
    refine ⟨?_, by rw [ht, topL_snoc, if_pos hc]⟩
    rw [e, List.set_append_right _ _ (by omega), hl, Nat.sub_self, List.set_cons_zero]
    unfold half
    rw [ht, topUp_snoc, if_pos hc, List.append_assoc]; rfl
  · intro hc
    refine ⟨?_, by rw [ht, topL_snoc, if_neg hc]⟩
    rw [e]
    unfold half
    rw [ht, topUp_snoc, if_neg hc, List.append_assoc]; rfl

def prs (T : Int) (ws : List Int) : List (Int × Int) := ws.map fun w => (w, fl T ws.sum w)
def fls (T : Int) (ws : List Int) : List Int := ws.map (fl T ws.sum)
theorem prs_len (T : Int) (ws : List Int) : (prs T ws).length = ws.length := by simp [prs]
theorem fls_len (T : Int) (ws : List Int) : (fls T ws).length = ws.length := by simp [fls]
theorem prs_snd (T : Int) (ws : List Int) : (prs T ws).map (·.2) = fls T ws := by simp [prs, fls, Function.comp_def]
theorem prs_get {T : Int} {ws : List Int} {i : Nat} {w : Int} (h : ws[i]? = some w) : (prs T ws)[i]? = some (w, fl T ws.sum w) := by simp [prs, h]
theorem fls_get {T : Int} {ws : List Int} {i : Nat} {w : Int} (h : ws[i]? = some w) : (fls T ws)[i]? = some (fl T ws.sum w) := by simp [fls, h]
theorem shareL_eq (T : Int) (ws : List Int) : shareL T ws = topUp (T - (fls T ws).sum) (prs T ws) := rfl
theorem fls_nonneg {T : Int} {ws : List Int} (hT : 0 ≤ T) (h : ∀ w ∈ ws, 0 ≤ w) (h0 : 0 < ws.sum) : ∀ q ∈ fls T ws, 0 ≤ q := by
  intro q hq
  simp only [fls, List.mem_map] at hq
  obtain ⟨w, hw, rfl⟩ := hq
  exact fl_nonneg hT (h w hw) h0
theorem take_sum_le : ∀ (l : List Int) (i : Nat), (∀ q ∈ l, 0 ≤ q) → 0 ≤ (l.take i).sum ∧ (l.take i).sum ≤ l.sum
  | [], i, _ => by simp
  | q :: l, 0, h => by
    have := sum_nonneg (q :: l) h
    simpa using this
  | q :: l, i + 1, h => by
    have ih := take_sum_le l i fun x hx => h x (List.mem_cons_of_mem _ hx)
    have := h q List.mem_cons_self
    simp only [List.take_succ_cons, List.sum_cons]; omega
theorem left_nonneg {T : Int} {ws : List Int} (h : ∀ w ∈ ws, 0 ≤ w) (h0 : 0 < ws.sum) : 0 ≤ T - (fls T ws).sum := (left_range h rfl h0).1

def shareE (T : Int) (ws : List Int) : Int := if ws.length > 4096 then 3 else if ∃ w ∈ ws, w < 0 then 2 else if T < 0 ∨ ws.sum = 0 then 2 else if 9223372036854775807 < ws.sum then 5 else 0
def shareV (T : Int) (ws : List Int) : List Int := if shareE T ws = 0 then shareL T ws else []
theorem shareE_ok {T : Int} {ws : List Int} (h : shareE T ws = 0) : ws.length ≤ 4096 ∧ (∀ w ∈ ws, 0 ≤ w) ∧ 0 ≤ T ∧ 0 < ws.sum ∧ ws.sum ≤ 9223372036854775807 := by
  unfold shareE at h
  split at h
  · cases h
  split at h
  · cases h
  rename_i h1 h2
  have hn : ∀ w ∈ ws, 0 ≤ w := fun w hw => by
    rcases Int.lt_or_le w 0 with h' | h'
    · exact absurd ⟨w, hw, h'⟩ h2
    · exact h'
  have := sum_nonneg ws hn
  split at h
  · cases h
  split at h
  · cases h
  exact ⟨by omega, hn, by omega, by omega, by omega⟩
end Go.Money
