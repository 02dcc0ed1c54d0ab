/- Lists of whole numbers that are one's own. -/
import Derived.Test.YtchbobndobpocaaDoorMo7
namespace Go.Proofs.YtchbobndobpocaaDoor
open Go.Abs Go.IntWalk Go.Money
def rowsI (l : List Int) : List (List AV) := l.map fun n => [AI .i64 (.th fun _ => n)]
theorem rowsI_pure (l : List Int) : ∀ e ∈ rowsI l, pureL e = true := by
  intro e he
  simp only [rowsI, List.mem_map] at he
  obtain ⟨n, _, rfl⟩ := he
  rfl
theorem rowsI_wide (l : List Int) : ∀ e ∈ rowsI l, e.length = 1 := by
  intro e he
  simp only [rowsI, List.mem_map] at he
  obtain ⟨n, _, rfl⟩ := he
  rfl
theorem rowsI_len (l : List Int) : (rowsI l).length = l.length := by simp [rowsI]
theorem rowsI_set (l : List Int) (i : Nat) (n : Int) : (rowsI l).set i [AI .i64 (.th fun _ => n)] = rowsI (l.set i n) := by simp [rowsI, List.map_set]
theorem rowsI_get (l : List Int) (i : Nat) (n : Int) (h : l[i]? = some n) : (rowsI l)[i]? = some [AI .i64 (.th fun _ => n)] := by simp [rowsI, h]
theorem rowsI_snoc (l : List Int) (n : Int) : rowsI (l ++ [n]) = rowsI l ++ [[AI .i64 (.th fun _ => n)]] := by simp [rowsI]
theorem rowsI_cells (l : List Int) : rowsI l = (rows64 l).map (fun e => e.map AV.c) := by simp [rowsI, rows64, List.map_map, Function.comp_def]
abbrev IArr (l : List Int) (c : Nat) : AO := .arr 1 (.th fun _ => rowsI l) (.th fun _ => c * 1)
/-- A list under way: n are laid, the others are nothing. -/
def part0 (l : List Int) (i : Nat) : List Int := l.take i ++ List.replicate (l.length - i) 0
theorem part0_zero (l : List Int) : part0 l 0 = List.replicate l.length 0 := by simp [part0]
theorem part0_all (l : List Int) : part0 l l.length = l := by simp [part0]
theorem part0_len (l : List Int) (i : Nat) (h : i ≤ l.length) : (part0 l i).length = l.length := by simp [part0]; omega
theorem part0_set (l : List Int) (i : Nat) (n : Int) (h : l[i]? = some n) : (part0 l i).set i n = part0 l (i + 1) := by
  have hi := (List.getElem?_eq_some_iff.1 h).1
  unfold part0
  rw [List.set_append_right _ _ (by rw [List.length_take]; omega), List.take_add_one, h]
  rw [List.length_take, show i - min i l.length = 0 by omega]
  obtain ⟨k, hk⟩ : ∃ k, l.length - i = k + 1 := ⟨l.length - i - 1, by omega⟩
  rw [hk, show l.length - (i + 1) = k by omega, List.replicate_succ, List.set_cons_zero]
  simp
theorem part0_get (l : List Int) (i : Nat) (h : i < l.length) : (part0 l i)[i]? = some 0 := by
  unfold part0
  rw [List.getElem?_append_right (by simp; omega)]
  rw [List.length_take, show i - min i l.length = 0 by omega, List.getElem?_replicate, if_pos (by omega)]

end Go.Proofs.YtchbobndobpocaaDoor
