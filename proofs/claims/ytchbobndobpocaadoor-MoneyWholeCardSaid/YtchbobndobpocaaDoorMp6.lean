/- Shares, in plain numbers. -/
namespace Go.Money

/-- The sum of many whole numbers, and its parts. -/
def fl (T S w : Int) : Int := T * w / S
theorem fl_nonneg {T S w : Int} (hT : 0 ≤ T) (hw : 0 ≤ w) (hS : 0 < S) : 0 ≤ fl T S w := Int.ediv_nonneg (Int.mul_nonneg hT hw) (by omega)
theorem fl_le {T S w : Int} (hT : 0 ≤ T) (hwS : w ≤ S) (hS : 0 < S) : fl T S w ≤ T := by
  unfold fl
  refine Int.ediv_le_of_le_mul hS ?_
  exact Int.mul_le_mul_of_nonneg_left hwS hT
theorem fl_spec (T S w : Int) (hS : 0 < S) : S * fl T S w ≤ T * w ∧ T * w < S * fl T S w + S := by
  have h1 := Int.mul_ediv_add_emod (T * w) S
  have h2 := Int.emod_nonneg (T * w) (show S ≠ 0 by omega)
  have h3 := Int.emod_lt_of_pos (T * w) hS
  unfold fl
  omega
theorem fl_zero (T S : Int) : fl T S 0 = 0 := by simp [fl]
theorem fl_mono {T S v w : Int} (hT : 0 ≤ T) (hS : 0 < S) (h : v ≤ w) : fl T S v ≤ fl T S w :=
  Int.ediv_le_ediv hS (Int.mul_le_mul_of_nonneg_left h hT)

def poss : List Int → Nat
  | [] => 0
  | w :: l => (if 0 < w then 1 else 0) + poss l
theorem sum_nonneg : ∀ (l : List Int), (∀ w ∈ l, 0 ≤ w) → 0 ≤ l.sum
  | [], _ => by simp
  | w :: l, h => by
    have := sum_nonneg l fun v hv => h v (List.mem_cons_of_mem _ hv)
    have := h w List.mem_cons_self
    simp only [List.sum_cons]; omega
theorem le_sum : ∀ (l : List Int), (∀ w ∈ l, 0 ≤ w) → ∀ w ∈ l, w ≤ l.sum
  | [], _, w, h => by cases h
  | v :: l, h, w, hw => by
    have h0 := sum_nonneg l fun v hv => h v (List.mem_cons_of_mem _ hv)
    have h1 := h v List.mem_cons_self
    simp only [List.sum_cons]
    rcases List.mem_cons.1 hw with rfl | hw
    · omega
    · have := le_sum l (fun v hv => h v (List.mem_cons_of_mem _ hv)) w hw
      omega
/-- What is lost by rounding down: nothing, or less than there are weights. -/
theorem fl_sum (T S : Int) (hS : 0 < S) : ∀ (l : List Int), (∀ w ∈ l, 0 ≤ w) → S * (l.map (fl T S)).sum ≤ T * l.sum ∧ (T * l.sum < S * (l.map (fl T S)).sum + S * (poss l : Int) ∨ (poss l = 0 ∧ T * l.sum ≤ S * (l.map (fl T S)).sum))
  | [], _ => by simp [poss]
  | w :: l, h => by
    have ih := fl_sum T S hS l fun v hv => h v (List.mem_cons_of_mem _ hv)
    have h1 := h w List.mem_cons_self
    have h2 := fl_spec T S w hS
    simp only [List.map_cons, List.sum_cons, Int.mul_add, poss]
    by_cases hw : 0 < w
    · rw [if_pos hw, Int.natCast_add, Int.natCast_one, Int.mul_add, Int.mul_one]
      refine ⟨by omega, .inl ?_⟩
      rcases ih.2 with h | ⟨h, h'⟩
      · omega
      · rw [h, Int.natCast_zero, Int.mul_zero]; omega
    · have : w = 0 := by omega
      subst this
      rw [if_neg hw, fl_zero, Int.mul_zero, Int.mul_zero, Int.zero_add, Int.zero_add, Nat.zero_add]
      exact ih
theorem left_range {T S : Int} {l : List Int} (h : ∀ w ∈ l, 0 ≤ w) (hS : l.sum = S) (h0 : 0 < S) : 0 ≤ T - (l.map (fl T S)).sum ∧ T - (l.map (fl T S)).sum ≤ poss l := by
  obtain ⟨h1, h2⟩ := fl_sum T S h0 l h
  rw [hS, Int.mul_comm T S] at h1 h2
  have a1 : (l.map (fl T S)).sum ≤ T := Int.le_of_mul_le_mul_left h1 h0
  refine ⟨by omega, ?_⟩
  rcases h2 with h2 | ⟨h2, h3⟩
  · rw [← Int.mul_add] at h2
    have := Int.lt_of_mul_lt_mul_left h2 (by omega)
    omega
  · have := Int.le_of_mul_le_mul_left h3 h0
    omega

/-- One more for the first 'left' that have a weight. -/
def topUp : Int → List (Int × Int) → List Int
  | _, [] => []
  | left, (w, q) :: l => if 0 < w ∧ 0 < left then (q + 1) :: topUp (left - 1) l else q :: topUp left l
def shareL (T : Int) (ws : List Int) : List Int := topUp (T - (ws.map (fl T ws.sum)).sum) (ws.map fun w => (w, fl T ws.sum w))

theorem topUp_len : ∀ (l : List (Int × Int)) (n : Int), (topUp n l).length = l.length
  | [], _ => rfl
  | (w, q) :: l, n => by
    unfold topUp; split <;> simp [topUp_len l]
theorem topUp_sum : ∀ (l : List (Int × Int)) (n : Int), 0 ≤ n → n ≤ poss (l.map (·.1)) → (topUp n l).sum = (l.map (·.2)).sum + n
  | [], n, h0, h1 => by simp [poss] at h1; simp [topUp]; omega
  | (w, q) :: l, n, h0, h1 => by
    simp only [List.map_cons, poss] at h1
    unfold topUp
    split
    · rename_i h
      rw [if_pos h.1] at h1
      rw [List.sum_cons, topUp_sum l (n - 1) (by omega) (by omega)]
      simp only [List.map_cons, List.sum_cons]; omega
    · rename_i h
      rw [List.sum_cons, topUp_sum l n h0 (by
        by_cases hw : 0 < w
        · have : n = 0 := by omega
          rw [this]; omega
        · rw [if_neg hw] at h1; omega)]
      simp only [List.map_cons, List.sum_cons]; omega
theorem topUp_get : ∀ (l : List (Int × Int)) (n : Int) (i : Nat) (w q : Int), l[i]? = some (w, q) → ∃ x, (topUp n l)[i]? = some x ∧ (x = q ∨ (x = q + 1 ∧ 0 < w))
  | [], _, i, _, _, h => by simp at h
  | (w, q) :: l, n, 0, w', q', h => by
    simp at h; obtain ⟨rfl, rfl⟩ := h
    unfold topUp
    split
    · rename_i h; exact ⟨_, rfl, .inr ⟨rfl, h.1⟩⟩
    · exact ⟨_, rfl, .inl rfl⟩
  | (w, q) :: l, n, i + 1, w', q', h => by
    unfold topUp
    split <;> exact topUp_get l _ i w' q' (by simpa using h)

theorem shareL_len (T : Int) (ws : List Int) : (shareL T ws).length = ws.length := by simp [shareL, topUp_len]
theorem shareL_sum {T : Int} {ws : List Int} (h : ∀ w ∈ ws, 0 ≤ w) (h0 : 0 < ws.sum) : (shareL T ws).sum = T := by
  have := left_range (T := T) h rfl h0
  unfold shareL
  rw [topUp_sum _ _ this.1 (by rw [List.map_map]; simpa [Function.comp_def] using this.2), List.map_map]
  show (ws.map (fl T ws.sum)).sum + _ = T
  omega
theorem shareL_get {T : Int} {ws : List Int} {i : Nat} {w : Int} (hi : ws[i]? = some w) : ∃ x, (shareL T ws)[i]? = some x ∧ (x = fl T ws.sum w ∨ (x = fl T ws.sum w + 1 ∧ 0 < w)) :=
  topUp_get _ _ i w (fl T ws.sum w) (by simp [hi])

/-! ### The document's ways -/
/-- Halves of 32 bits. -/
def hS (l : List Int) : Int := (l.map (· / 4294967296)).sum
def lS (l : List Int) : Int := (l.map (· % 4294967296)).sum
theorem halves : ∀ (l : List Int), l.sum = 4294967296 * hS l + lS l
  | [] => rfl
  | n :: l => by
    have := halves l
    simp only [hS, lS, List.map_cons, List.sum_cons] at *
    omega
theorem halves_in : ∀ (l : List Int), (∀ n ∈ l, -9223372036854775808 ≤ n ∧ n ≤ 9223372036854775807) → -2147483648 * (l.length : Int) ≤ hS l ∧ hS l ≤ 2147483647 * (l.length : Int) ∧ 0 ≤ lS l ∧ lS l ≤ 4294967295 * (l.length : Int)
  | [], _ => by simp [hS, lS]
  | n :: l, h => by
    have h1 := halves_in l fun m hm => h m (List.mem_cons_of_mem _ hm)
    have h2 := h n List.mem_cons_self
    simp only [hS, lS, List.map_cons, List.sum_cons, List.length_cons, Int.natCast_add, Int.natCast_one] at *
    omega
theorem hS_snoc (l : List Int) (n : Int) : hS (l ++ [n]) = hS l + n / 4294967296 := by simp [hS]
theorem lS_snoc (l : List Int) (n : Int) : lS (l ++ [n]) = lS l + n % 4294967296 := by simp [lS]

/-- A round of the long division: what is left of p's head, doubled. -/
theorem part_step {S w p q r b : Int} (hS : 0 < S) (hw : 0 ≤ w ∧ w ≤ S) (h : q * S + r = p * w) (hr : 0 ≤ r ∧ r < S) (hb : b = 0 ∨ b = 1) :
    ∃ q' r', q' * S + r' = (2 * p + b) * w ∧ 0 ≤ r' ∧ r' < S ∧ q' = 2 * q + (if b = 1 ∧ S ≤ 2 * r then 1 else 0) + (if S ≤ 2 * r + b * w - (if b = 1 ∧ S ≤ 2 * r then S else 0) then 1 else 0) ∧ r' = (2 * r + b * w - (if b = 1 ∧ S ≤ 2 * r then S else 0)) - (if S ≤ 2 * r + b * w - (if b = 1 ∧ S ≤ 2 * r then S else 0) then S else 0) := by
  have e : (2 * p + b) * w = 2 * (q * S + r) + b * w := by rw [h, Int.add_mul, Int.mul_assoc]
  refine ⟨_, _, ?_, ?_, ?_, rfl, rfl⟩
  · rw [e]
    by_cases hc : b = 1 ∧ S ≤ 2 * r
    · simp only [if_pos hc]
      split <;> simp only [Int.add_mul, Int.mul_assoc, Int.zero_mul, Int.one_mul] <;> omega
    · simp only [if_neg hc]
      split <;> simp only [Int.add_mul, Int.mul_assoc, Int.zero_mul, Int.one_mul] <;> omega
  all_goals
    by_cases hc : b = 1 ∧ S ≤ 2 * r
    · simp only [if_pos hc]
      obtain ⟨rfl, hc⟩ := hc
      split <;> simp only [Int.one_mul] at * <;> omega
    · simp only [if_neg hc]
      rcases hb with rfl | rfl
      · split <;> simp only [Int.zero_mul] at * <;> omega
      · have hc' : ¬ S ≤ 2 * r := fun h => hc ⟨rfl, h⟩
        split <;> simp only [Int.one_mul] at * <;> omega
theorem part_end {S w T q r : Int} (_ : 0 < S) (h : q * S + r = T * w) (hr : 0 ≤ r ∧ r < S) : q = fl T S w := by
  unfold fl
  rw [← h, Int.mul_comm q S, Int.mul_add_ediv_left _ _ (by omega), Int.ediv_eq_zero_of_lt hr.1 hr.2]; omega

/-! ### Lists turned round -/
theorem turned_sum (f : Nat → Int) (n c : Nat) (h : c < n) : ((List.range n).map fun i => f ((i + c) % n)).sum = ((List.range n).map f).sum := by
  have h1 : List.range n = List.range (n - c) ++ (List.range c).map (· + (n - c)) := by
    conv => lhs; rw [show n = (n - c) + c by omega, List.range_add]
    congr 1
    exact List.map_congr_left fun i _ => by omega
  have h2 : List.range n = List.range c ++ (List.range (n - c)).map (· + c) := by
    conv => lhs; rw [show n = c + (n - c) by omega, List.range_add]
    congr 1
    exact List.map_congr_left fun i _ => by omega
  conv => rhs; rw [h2]
  conv => lhs; rw [h1]
  rw [List.map_append, List.map_append, List.sum_append, List.sum_append, List.map_map, List.map_map, Int.add_comm]
  congr 2
  · refine List.map_congr_left fun i hi => ?_
    have := List.mem_range.1 hi
    simp only [Function.comp]
    rw [show i + (n - c) + c = i + n by omega, Nat.add_mod_right, Nat.mod_eq_of_lt (by omega)]
  · refine List.map_congr_left fun i hi => ?_
    have := List.mem_range.1 hi
    simp only [Function.comp]
    rw [Nat.mod_eq_of_lt (by omega)]
end Go.Money
