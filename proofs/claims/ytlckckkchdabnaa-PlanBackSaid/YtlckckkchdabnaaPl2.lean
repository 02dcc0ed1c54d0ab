/- plan: undo, turns, next. -/
import Derived.Test.YtlckckkchdabnaaPl1
namespace Go.Proofs.Ytlckckkchdabnaa
open Go.Abs Go.IntWalk
variable {P : Program} (hP : P = Try.prog)
def lk (k : Int) : List Int := (stepsL k).getD []
theorem rows_steps (k : Int) : (T.vslS 1 fun _ => stepsT k).rows = rows8 (lk k) := by
  simp only [T.rows, stepsT, lk]
  cases stepsL k <;> simp [rows8]
theorem nth_rows8 (l : List Int) (n : Int) (h0 : 0 ≤ n) (h : n < l.length) : (rows8 l)[n.toNat]? = some [T.int .u8 (.th fun _ => l.getD n.toNat 0)] :=
  get_rows8 l _ _ (by rw [List.getD_eq_getElem?_getD, List.getElem?_eq_getElem (by omega)]; rfl)
theorem lk_len (k : Int) : ((lk k).length : Int) = nS k := rfl
def undoK (s : Int) : Int := if s = 1 then 6 else if s = 2 then 7 else if s = 3 then 8 else if s = 4 then 9 else 0
def undoB (s : Int) : Bool := decide (s = 1) || decide (s = 2) || decide (s = 3) || decide (s = 4)
def turnsS (s : Int) : Bool := decide (0 ≤ idx [1, 2, 3, 4, 5, 10] s)
def nextK (k a : Int) (u : Bool) : Int := if checkS k a u ≠ 0 then 0 else if u = true then (if a > 0 then undoK ((lk k).getD (a - 1).toNat 0) else 0) else if a < nS k then (lk k).getD a.toNat 0 else 0
def nextB (k a : Int) (u : Bool) : Bool := if checkS k a u ≠ 0 then false else if u = true then (if a > 0 then undoB ((lk k).getD (a - 1).toNat 0) else false) else decide (a < nS k)

include hP
set_option maxHeartbeats 1000000 in
theorem undo_ret (s : Int) : Ret P 19 [AI .u8 (.th fun _ => s)] (.tup [AI .u8 (.th fun _ => undoK s), AB (.th fun _ => undoB s)]) := by
  refine e19 hP ?_
  cbv
  repeat' (refine BrS.mk (fun h => ?_) (fun h => ?_) <;> cbv)
  all_goals
    refine .tup' (.cons (.int ?_) (.cons (.bool ?_) .nil))
    all_goals simp_all [undoK, undoB]

theorem contains_ret (l : List Int) (s : Int) (hl : l.length ≤ 9223372036854775807) : Ret P 27 [.c (.vslS 1 fun _ => .vsl 1 (rows8 l)), AI .u8 (.th fun _ => s)] (AB (.th fun _ => decide (0 ≤ idx l s))) := by
  refine e27 hP ?_
  cbv
  refine (index_ret hP l s hl).call (.cons (.pure rfl) (.cons (.pure rfl) .nil)) rfl ?_
  cbv
  refine .bool ?_
  simp [icmp]

theorem turns_ret (s : Int) : Ret P 18 [AI .u8 (.th fun _ => s)] (AB (.th fun _ => turnsS s)) := by
  refine e18 hP ?_
  cbv
  refine e20 hP ?_
  cbv
  refine append_own (ty hP) (e := 25) rfl rfl rfl (by simp) rfl rfl (by decide) rfl (by decide) rfl (by simp) (Src.sl (und_slice (ty hP) (e := 25) rfl rfl) (es := .lit [[AI .u8 (.lit 10)]]) (sz := .lit 1) rfl (by simp) (by decide)) (by decide) (by decide) (.lit 6) (.lit [[AI .u8 (.lit 1)], [AI .u8 (.lit 2)], [AI .u8 (.lit 3)], [AI .u8 (.lit 4)], [AI .u8 (.lit 5)], [AI .u8 (.lit 10)]]) rfl rfl (fun c hc => ?_)
  cbv
  refine ((contains_ret hP [1, 2, 3, 4, 5, 10] s (by decide)).args (args := [.c (.vslS 1 fun _ => .vsl 1 (lits8 [1, 2, 3, 4, 5, 10])), AI .u8 (.th fun _ => s)]) (.cons (.c (.vslS rfl rfl (lits_rows _))) (.cons (.pure rfl) .nil))).lend (.cons (.slS (lits8 [1, 2, 3, 4, 5, 10]) _ rfl rfl (by decide) rfl) (.cons (.pure rfl) .nil)) rfl ?_
  cbv
  exact .bool rfl

abbrev sagaL (o k a : Int) (u : Bool) : AV := .agg [AI .i64 (.th fun _ => o), AI .u8 (.th fun _ => k), AI .i64 (.th fun _ => a), AB (.lit u)]
omit hP in
theorem s_l (o k a : Int) (u : Bool) : RV 0 [] [] (saga o k a u) (sagaL o k a u) := .agg' (.cons (.pure rfl) (.cons (.pure rfl) (.cons (.pure rfl) (.cons (.bool rfl) .nil))))
omit hP in
theorem l_s (o k a : Int) (u : Bool) : RV 0 [] [] (sagaL o k a u) (saga o k a u) := .agg' (.cons (.pure rfl) (.cons (.pure rfl) (.cons (.pure rfl) (.cons (.bool rfl) .nil))))

set_option maxHeartbeats 1000000 in
theorem next_ret (o k a : Int) (u : Bool) : Ret P 9 [saga o k a u] (.tup [AI .u8 (.th fun _ => nextK k a u), AB (.th fun _ => nextB k a u), AI .i64 (.th fun _ => checkS k a u)]) := by
  have hn := nS_cases k
  refine Ret.args (args' := [sagaL o k a u]) ?_ (.cons (s_l ..) .nil)
  cases u <;> (
    refine e9 hP ?_
    cbv
    refine (check_ret hP o k a _).call (.cons (l_s ..) .nil) rfl ?_
    cbv
    refine BrS.mk (fun h => ?_) (fun h => ?_) <;> cbv)
  case false.refine_1 | true.refine_1 =>
    simp [icmp] at h
    refine .tup' (.cons (.int ?_) (.cons (.bool ?_) (.cons (.int rfl) .nil)))
    all_goals simp [nextK, nextB, h]
  all_goals
    simp [icmp] at h
    have hc := h
    simp [checkS] at hc
    refine (steps_ret hP k).call (.cons (.pure rfl) .nil) rfl ?_
    cbv
  · refine BrS.mk (fun h2 => ?_) (fun h2 => ?_) <;> cbv
    · simp [icmp, len_steps] at h2
      refine NthS.mk [T.int .u8 (.th fun _ => (lk k).getD a.toNat 0)] ?_ ?_ ?_
      · simp; omega
      · simp only [rows_steps, Th.den_th]
        exact nth_rows8 _ _ (by omega) (by rw [lk_len]; omega)
      · cbv
        refine .tup' (.cons (.int ?_) (.cons (.bool ?_) (.cons (.int ?_) .nil)))
        all_goals simp [nextK, nextB, h, h2]
    · simp [icmp, len_steps] at h2
      refine .tup' (.cons (.int ?_) (.cons (.bool ?_) (.cons (.int ?_) .nil)))
      all_goals simp [nextK, nextB, h, h2]
      all_goals omega
  · refine BrS.mk (fun h2 => ?_) (fun h2 => ?_) <;> cbv
    · simp [icmp] at h2
      have hw : IntKind.i64.wrap (a - 1) = a - 1 := i64_in _ (by split at hc <;> omega)
      refine NthS.mk [T.int .u8 (.th fun _ => (lk k).getD (a - 1).toNat 0)] ?_ ?_ ?_
      · simp only [iop, hw, Th.den_th]; omega
      · simp only [iop, hw, rows_steps, Th.den_th]
        exact nth_rows8 _ _ (by omega) (by rw [lk_len]; split at hc <;> omega)
      · cbv
        refine (undo_ret hP _).call (.cons (.pure rfl) .nil) rfl ?_
        cbv
        refine .tup' (.cons (.int ?_) (.cons (.bool ?_) (.cons (.int ?_) .nil)))
        all_goals simp [nextK, nextB, h, h2]
    · simp [icmp] at h2
      refine .tup' (.cons (.int ?_) (.cons (.bool ?_) (.cons (.int ?_) .nil)))
      all_goals simp [nextK, nextB, h]
      all_goals omega
end Go.Proofs.Ytlckckkchdabnaa
