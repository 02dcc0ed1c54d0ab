/- The abstract machine, part 17: what is known of an argument by its type. -/
import Derived.Test.YtchbobndobpocaaDoorA16
namespace Go.Abs
variable [Gl]
section
variable {δ : Nat → Option TD} {t : Nat} {d : TD} {l : List T}
omit [Gl] in
theorem fit_int {k : IntKind} (hd : δ t = some d) (hs : d.sh = .int k) (h : Fit δ t l) : ∃ n, l = [.int k (.th fun _ => n)] ∧ (Lit.int k n).wf = true := by
  cases h with
  | bool b h1 h2 => rw [hd] at h1; cases h1; rw [hs] at h2; cases h2
  | int n h1 h2 h3 => rw [hd] at h1; cases h1; rw [hs] at h2; cases h2; exact ⟨n, rfl, h3⟩
  | str n h1 h2 h3 => rw [hd] at h1; cases h1; rw [hs] at h2; cases h2
  | sl rows h1 h2 h3 h4 h5 h6 => rw [hd] at h1; cases h1; rw [hs] at h2; cases h2
  | nilP h1 h2 => rw [hd] at h1; cases h1; rw [hs] at h2; cases h2
  | ptr cs h1 h2 h3 => rw [hd] at h1; cases h1; rw [hs] at h2; cases h2
  | struct h1 h2 h3 => rw [hd] at h1; cases h1; rw [hs] at h2; cases h2
  | array h1 h2 h3 => rw [hd] at h1; cases h1; rw [hs] at h2; cases h2
omit [Gl] in
theorem fit_bool (hd : δ t = some d) (hs : d.sh = .bool) (h : Fit δ t l) : ∃ b, l = [.bool (.th fun _ => b)] := by
  cases h with
  | bool b h1 h2 => exact ⟨b, rfl⟩
  | int n h1 h2 h3 => rw [hd] at h1; cases h1; rw [hs] at h2; cases h2
  | str n h1 h2 h3 => rw [hd] at h1; cases h1; rw [hs] at h2; cases h2
  | sl rows h1 h2 h3 h4 h5 h6 => rw [hd] at h1; cases h1; rw [hs] at h2; cases h2
  | nilP h1 h2 => rw [hd] at h1; cases h1; rw [hs] at h2; cases h2
  | ptr cs h1 h2 h3 => rw [hd] at h1; cases h1; rw [hs] at h2; cases h2
  | struct h1 h2 h3 => rw [hd] at h1; cases h1; rw [hs] at h2; cases h2
  | array h1 h2 h3 => rw [hd] at h1; cases h1; rw [hs] at h2; cases h2
omit [Gl] in
theorem fit_str (hd : δ t = some d) (hs : d.sh = .str) (h : Fit δ t l) : ∃ s : ByteArray, l = [.str (.th fun _ => s)] ∧ s.size ≤ reachBytes := by
  cases h with
  | bool b h1 h2 => rw [hd] at h1; cases h1; rw [hs] at h2; cases h2
  | int n h1 h2 h3 => rw [hd] at h1; cases h1; rw [hs] at h2; cases h2
  | str n h1 h2 h3 => exact ⟨n, rfl, h3⟩
  | sl rows h1 h2 h3 h4 h5 h6 => rw [hd] at h1; cases h1; rw [hs] at h2; cases h2
  | nilP h1 h2 => rw [hd] at h1; cases h1; rw [hs] at h2; cases h2
  | ptr cs h1 h2 h3 => rw [hd] at h1; cases h1; rw [hs] at h2; cases h2
  | struct h1 h2 h3 => rw [hd] at h1; cases h1; rw [hs] at h2; cases h2
  | array h1 h2 h3 => rw [hd] at h1; cases h1; rw [hs] at h2; cases h2
omit [Gl] in
theorem fit_slice {e : Nat} {ed : TD} (he : δ e = some ed) (hd : δ t = some d) (hs : d.sh = .slice e) (h : Fit δ t l) : ∃ rows : List (List T), l = [.vslS ed.size (fun _ => .vsl ed.size rows)] ∧ (∀ r ∈ rows, Fit δ e r) ∧ rows.length * ed.bytes ≤ reachBytes ∧ rows.length ≤ maxLen := by
  cases h with
  | bool b h1 h2 => rw [hd] at h1; cases h1; rw [hs] at h2; cases h2
  | int n h1 h2 h3 => rw [hd] at h1; cases h1; rw [hs] at h2; cases h2
  | str n h1 h2 h3 => rw [hd] at h1; cases h1; rw [hs] at h2; cases h2
  | sl rows h1 h2 h3 h4 h5 h6 => rw [hd] at h1; cases h1; rw [hs] at h2; cases h2; rw [he] at h3; cases h3; exact ⟨rows, rfl, h4, h5, h6⟩
  | nilP h1 h2 => rw [hd] at h1; cases h1; rw [hs] at h2; cases h2
  | ptr cs h1 h2 h3 => rw [hd] at h1; cases h1; rw [hs] at h2; cases h2
  | struct h1 h2 h3 => rw [hd] at h1; cases h1; rw [hs] at h2; cases h2
  | array h1 h2 h3 => rw [hd] at h1; cases h1; rw [hs] at h2; cases h2
omit [Gl] in
theorem fit_ptr {e : Nat} (hd : δ t = some d) (hs : d.sh = .ptr e) (h : Fit δ t l) : l = [.lit (.pointer none)] ∨ ∃ cs, l = [.vptr cs] ∧ Fit δ e cs := by
  cases h with
  | bool b h1 h2 => rw [hd] at h1; cases h1; rw [hs] at h2; cases h2
  | int n h1 h2 h3 => rw [hd] at h1; cases h1; rw [hs] at h2; cases h2
  | str n h1 h2 h3 => rw [hd] at h1; cases h1; rw [hs] at h2; cases h2
  | sl rows h1 h2 h3 h4 h5 h6 => rw [hd] at h1; cases h1; rw [hs] at h2; cases h2
  | nilP h1 h2 => exact .inl rfl
  | ptr cs h1 h2 h3 => rw [hd] at h1; cases h1; rw [hs] at h2; cases h2; exact .inr ⟨cs, rfl, h3⟩
  | struct h1 h2 h3 => rw [hd] at h1; cases h1; rw [hs] at h2; cases h2
  | array h1 h2 h3 => rw [hd] at h1; cases h1; rw [hs] at h2; cases h2
omit [Gl] in
theorem fit_struct {fs : List (Nat × Nat)} (hd : δ t = some d) (hs : d.sh = .struct fs) (h : Fit δ t l) : FitL δ fs 0 l := by
  cases h with
  | bool b h1 h2 => rw [hd] at h1; cases h1; rw [hs] at h2; cases h2
  | int n h1 h2 h3 => rw [hd] at h1; cases h1; rw [hs] at h2; cases h2
  | str n h1 h2 h3 => rw [hd] at h1; cases h1; rw [hs] at h2; cases h2
  | sl rows h1 h2 h3 h4 h5 h6 => rw [hd] at h1; cases h1; rw [hs] at h2; cases h2
  | nilP h1 h2 => rw [hd] at h1; cases h1; rw [hs] at h2; cases h2
  | ptr cs h1 h2 h3 => rw [hd] at h1; cases h1; rw [hs] at h2; cases h2
  | struct h1 h2 h3 => rw [hd] at h1; cases h1; rw [hs] at h2; cases h2; exact h3
  | array h1 h2 h3 => rw [hd] at h1; cases h1; rw [hs] at h2; cases h2
omit [Gl] in
theorem fit_array {n e : Nat} (hd : δ t = some d) (hs : d.sh = .array n e) (h : Fit δ t l) : FitN δ e n l := by
  cases h with
  | bool b h1 h2 => rw [hd] at h1; cases h1; rw [hs] at h2; cases h2
  | int n h1 h2 h3 => rw [hd] at h1; cases h1; rw [hs] at h2; cases h2
  | str n h1 h2 h3 => rw [hd] at h1; cases h1; rw [hs] at h2; cases h2
  | sl rows h1 h2 h3 h4 h5 h6 => rw [hd] at h1; cases h1; rw [hs] at h2; cases h2
  | nilP h1 h2 => rw [hd] at h1; cases h1; rw [hs] at h2; cases h2
  | ptr cs h1 h2 h3 => rw [hd] at h1; cases h1; rw [hs] at h2; cases h2
  | struct h1 h2 h3 => rw [hd] at h1; cases h1; rw [hs] at h2; cases h2
  | array h1 h2 h3 => rw [hd] at h1; cases h1; rw [hs] at h2; cases h2; exact h3
omit [Gl] in
theorem fitL_cons {o o' : Nat} {fs : List (Nat × Nat)} (h : FitL δ ((o, t) :: fs) o' l) : ∃ a b e, l = a ++ b ∧ δ t = some e ∧ Fit δ t a ∧ FitL δ fs (o' + e.size) b := by
  cases h with
  | cons h1 h2 h3 => exact ⟨_, _, _, rfl, h1, h2, h3⟩
omit [Gl] in
theorem fitL_nil {o : Nat} (h : FitL δ [] o l) : l = [] := by cases h; rfl
omit [Gl] in
theorem fitVs_cons {x : List AV} {ts : List Nat} (h : FitVs δ (t :: ts) x) : ∃ y ys, x = y :: ys ∧ FitV δ t y ∧ FitVs δ ts ys := by
  cases h with | cons h1 h2 => exact ⟨_, _, rfl, h1, h2⟩
omit [Gl] in
theorem fitVs_nil {x : List AV} (h : FitVs δ [] x) : x = [] := by cases h; rfl
omit [Gl] in
theorem fitV_get {x : AV} (h : FitV δ t x) (hd : δ t = some d) : ∃ l, Fit δ t l ∧ x = wrapT d.agg l := by
  obtain ⟨d', l, h1, h2, rfl⟩ := h
  rw [hd] at h1; cases h1
  exact ⟨l, h2, rfl⟩

omit [Gl] in
/-- Rows of things of one kind. -/
theorem rows_typed {α : Type} {p : List T → Prop} {ts : α → List T} {wf : α → Prop} (h : ∀ r, p r → ∃ a, r = ts a ∧ wf a) : ∀ (rows : List (List T)), (∀ r ∈ rows, p r) → ∃ l : List α, rows = l.map ts ∧ ∀ a ∈ l, wf a
  | [], _ => ⟨[], rfl, fun a h => by cases h⟩
  | r :: rows, hr => by
    obtain ⟨a, rfl, ha⟩ := h r (hr r List.mem_cons_self)
    obtain ⟨l, rfl, hl⟩ := rows_typed h rows fun r h => hr r (List.mem_cons_of_mem _ h)
    exact ⟨a :: l, rfl, fun b hb => by
      rcases List.mem_cons.1 hb with rfl | hb
      · exact ha
      · exact hl b hb⟩
end
end Go.Abs
