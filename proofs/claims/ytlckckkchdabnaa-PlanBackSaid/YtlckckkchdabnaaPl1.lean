/- The functions of plan that are called by the laws: steps, checks, the search in a list. -/
import Derived.Test.YtlckckkchdabnaaEn
import Derived.IntWalk
namespace Go.Proofs.Ytlckckkchdabnaa
open Go.Abs Go.IntWalk
variable {P : Program} (hP : P = Try.prog)

abbrev saga (o k a : Int) (u : Bool) : AV := .agg [AI .i64 (.th fun _ => o), AI .u8 (.th fun _ => k), AI .i64 (.th fun _ => a), AB (.th fun _ => u)]
def stepsL (k : Int) : Option (List Int) := if k = 1 ∨ k = 2 then some [1, 2, 3, 4, 5] else if k = 3 then some [10, 11, 9] else none
def rows8 (l : List Int) : List (List T) := l.map fun n => [T.int .u8 (.th fun _ => n)]
def lits8 (l : List Int) : List (List T) := l.map fun n => [T.int .u8 (.lit n)]
theorem lits_rows : ∀ l, TELs (lits8 l) (rows8 l)
  | [] => .nil
  | _ :: l => .cons (.cons (.int rfl) .nil) (lits_rows l)
def stepsT (k : Int) : T := match stepsL k with | some l => .vsl 1 (rows8 l) | none => .lit (.slice none 0 0)
def nS (k : Int) : Int := ((stepsL k).getD []).length
theorem len_steps (k : Int) : ((T.vslS 1 fun _ => stepsT k).rows.length : Int) = nS k := by
  simp only [T.rows, stepsT, nS]
  cases stepsL k <;> simp [rows8]
def checkS (k a : Int) (u : Bool) : Int := if nS k = 0 ∨ a < 0 ∨ a > (if u = true then (if k = 3 then 0 else nS k - 1) else nS k) ∨ (k = 2 ∧ u = false) then 2 else 0

include hP
theorem steps_ret (k : Int) : Ret P 20 [AI .u8 (.th fun _ => k)] (.c (.vslS 1 fun _ => stepsT k)) := by
  refine e20 hP ?_
  cbv
  refine .mk (fun h => ?_) (fun h => ?_)
  · cbv
    exact .fzS (lits8 [1, 2, 3, 4, 5]) _ rfl rfl rfl (by decide) (.hide (es' := rows8 [1, 2, 3, 4, 5]) (by simp at h; simp [stepsT, stepsL, h]) (lits_rows [1, 2, 3, 4, 5]))
  cbv
  refine .mk (fun h => ?_) (fun h => ?_)
  · cbv
    exact .fzS (lits8 [1, 2, 3, 4, 5]) _ rfl rfl rfl (by decide) (.hide (es' := rows8 [1, 2, 3, 4, 5]) (by simp at h; simp [stepsT, stepsL, h]) (lits_rows [1, 2, 3, 4, 5]))
  cbv
  refine .mk (fun h => ?_) (fun h => ?_)
  · cbv
    exact .fzS (lits8 [10, 11, 9]) _ rfl rfl rfl (by decide) (.hide (es' := rows8 [10, 11, 9]) (by simp at h; simp [stepsT, stepsL, h]) (lits_rows [10, 11, 9]))
  cbv
  exact .c (.hideN (by simp_all [stepsT, stepsL]))

omit hP in
theorem nS_cases (k : Int) : (k = 1 ∨ k = 2) ∧ nS k = 5 ∨ k = 3 ∧ nS k = 3 ∨ (k ≠ 1 ∧ k ≠ 2 ∧ k ≠ 3) ∧ nS k = 0 := by
  by_cases h1 : k = 1 ∨ k = 2
  · simp [nS, stepsL, h1]
  · by_cases h2 : k = 3
    · simp [nS, stepsL, h2]
    · simp [nS, stepsL, h1, h2]; omega

set_option maxHeartbeats 1000000 in
theorem check_ret (o k a : Int) (u : Bool) : Ret P 16 [saga o k a u] (AI .i64 (.th fun _ => checkS k a u)) := by
  have hn := nS_cases k
  have hw : IntKind.i64.wrap (nS k - 1) = nS k - 1 := i64_in _ (by omega)
  refine Ret.args (args' := [.agg [AI .i64 (.th fun _ => o), AI .u8 (.th fun _ => k), AI .i64 (.th fun _ => a), AB (.lit u)]]) ?_ (.cons (.agg' (.cons (.pure rfl) (.cons (.pure rfl) (.cons (.pure rfl) (.cons (.bool rfl) .nil))))) .nil)
  cases u
  all_goals
    refine e16 hP ?_
    cbv
    refine (steps_ret hP k).call (RVs.cons (.pure rfl) .nil) rfl ?_
    cbv
    repeat' (refine BrS.mk (fun h => ?_) (fun h => ?_) <;> cbv)
    all_goals
      refine .int ?_
      simp only [Th.den_lit, Th.den_th, checkS, icmp, iop, len_steps] at *
      simp [hw] at *
      first | omega | (split <;> omega) | (split <;> simp_all <;> omega)

omit hP in
theorem len_rows8 (l : List Int) : (rows8 l).length = l.length := by simp [rows8]
omit hP in
theorem get_rows8 (l : List Int) (i : Nat) (n : Int) (h : l[i]? = some n) : (rows8 l)[i]? = some [T.int .u8 (.th fun _ => n)] := by simp [rows8, h]
def idxF : List Int → Int → Nat → Int
  | [], _, _ => -1
  | a :: l, s, k => if a = s then (k : Int) else idxF l s (k + 1)
def idx (l : List Int) (s : Int) : Int := idxF l s 0
omit hP in
theorem idxF_at : ∀ (l : List Int) (s : Int) (k i : Nat), l[i]? = some s → (∀ j, j < i → l[j]? ≠ some s) → idxF l s k = (k + i : Nat)
  | [], s, k, i, h, _ => by simp at h
  | a :: l, s, k, i, h, hn => by
    cases i with
    | zero => simp at h; simp [idxF, h]
    | succ i =>
      have ha : a ≠ s := fun e => hn 0 (by omega) (by simp [e])
      simp only [idxF, if_neg ha]
      rw [idxF_at l s (k + 1) i (by simpa using h) (fun j hj => by have := hn (j + 1) (by omega); simpa using this)]
      omega
omit hP in
theorem idxF_none : ∀ (l : List Int) (s : Int) (k : Nat), (∀ j, j < l.length → l[j]? ≠ some s) → idxF l s k = -1
  | [], s, k, _ => rfl
  | a :: l, s, k, hn => by
    have ha : a ≠ s := fun e => hn 0 (by simp) (by simp [e])
    simp only [idxF, if_neg ha]
    exact idxF_none l s (k + 1) (fun j hj => by have := hn (j + 1) (by simp; omega); simpa using this)
omit hP in
theorem ty (hP : P = Try.prog) : TyOk P td := hP ▸ td_ok

set_option maxHeartbeats 1000000 in
theorem index_ret (l : List Int) (s : Int) (hl : l.length ≤ 9223372036854775807) : Ret P 28 [.c (.vslS 1 fun _ => .vsl 1 (rows8 l)), AI .u8 (.th fun _ => s)] (AI .i64 (.th fun _ => idx l s)) := by
  refine e28 hP ?_
  cbv
  let E : Nat → List AV := fun i => [.c (.vslS 1 fun _ => .vsl 1 (rows8 l)), AI .u8 (.th fun _ => s), .junk, .junk, AI .i64 (.lit 0), .junk, .junk, AI .i64 (.th fun _ => (l.length : Int)), AI .i64 (.th fun _ => (i : Int)), .junk, .junk, .junk, .junk, .junk, .junk, .junk, .junk, .junk, .junk]
  refine ACode.inv (ty hP) (fun n e o => ∃ i, i ≤ l.length ∧ n = l.length - i ∧ (∀ j, j < i → l[j]? ≠ some s) ∧ e = E i ∧ o = []) l.length (E 0) [] (Ren.of [] rfl rfl ?_ .nil) ⟨0, by omega, by omega, fun j h => by omega, rfl, rfl⟩ ?_
  · repeat' (first | exact RVs.nil | refine RVs.cons ?_ ?_)
    all_goals first | exact .junk | exact .pure rfl | exact .int rfl | (refine .int ?_; simp [T.rows, len_rows8])
  · rintro n e o ⟨i, hi, hn, hne, rfl, rfl⟩ J hJ
    cbv
    refine BrS.mk (fun h => ?_) (fun h => ?_) <;> cbv
    · simp [icmp] at h
      have hlt : i < l.length := by omega
      refine NthS.mk [T.int .u8 (.th fun _ => l[i])] (by simp) ?_ ?_
      · simp [T.rows]; exact get_rows8 l i _ (List.getElem?_eq_getElem hlt)
      · cbv
        refine BrS.mk (fun h => ?_) (fun h => ?_) <;> cbv
        · refine .int ?_
          simp [icmp] at h
          simp [idx, idxF_at l s 0 i (by rw [List.getElem?_eq_getElem hlt, h]) hne]
        · simp [icmp] at h
          refine hJ (l.length - (i + 1)) _ _ (E (i + 1)) [] (by omega) (Ren.of [] rfl rfl ?_ .nil) ⟨i + 1, by omega, by omega, fun j hj => ?_, rfl, rfl⟩
          · repeat' (first | exact RVs.nil | refine RVs.cons ?_ ?_)
            all_goals first | exact .junk | exact .pure rfl | exact .int rfl | (refine .int ?_; simp [T.rows, len_rows8, iop]; first | exact i64_in ((i : Int) + 1) (by omega) | (trace_state; done))
          · rcases Nat.lt_or_ge j i with h1 | h1
            · exact hne j h1
            · have : j = i := by omega
              subst this
              rw [List.getElem?_eq_getElem hlt]
              simp; exact fun e => h e.symm
    · simp [icmp] at h
      refine .int ?_
      simp [idx, idxF_none l s 0 (fun j hj => hne j (by omega))]
end Go.Proofs.Ytlckckkchdabnaa
