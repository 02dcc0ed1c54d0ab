/- plan: the document's own next, advance, left, same. -/
import Derived.Test.YtlckckkchdabnaaPl8
namespace Go.Proofs.Ytlckckkchdabnaa
open Go.Abs Go.IntWalk
variable {P : Program} (hP : P = Try.prog)
include hP
set_option maxHeartbeats 1000000 in
theorem rnext_ret (o k a : Int) (u : Bool) : Ret P 10 [saga o k a u] (.tup [AI .u8 (.th fun _ => nextK k a u), AB (.th fun _ => nextB k a u), AI .i64 (.th fun _ => checkS k a u)]) := by
  have hn := nS_cases k
  refine Ret.args (args' := [sagaL o k a u]) ?_ (.cons (s_l ..) .nil)
  cases u <;> (
    refine e10 hP ?_
    cbv
    refine (rcheck_ret hP o k a _).call (.cons (l_s ..) .nil) rfl ?_
    cbv
    refine BrS.mk (fun h => ?_) (fun h => ?_) <;> cbv)
  case false.refine_1 | true.refine_1 =>
    simp [icmp] at h
    refine .tup' (.cons (.int ?_) (.cons (.bool ?_) (.cons (.int rfl) .nil)))
    all_goals simp [nextK, nextB, h]
  all_goals
    simp [icmp] at h
    have hc := h
    simp [checkS] at hc
    refine (rsteps_ret hP k).call (.cons (.pure rfl) .nil) rfl ?_
    cbv
  · refine BrS.mk (fun h2 => ?_) (fun h2 => ?_) <;> cbv
    · simp [icmp, len_steps] at h2
      subst h2
      refine .tup' (.cons (.int ?_) (.cons (.bool ?_) (.cons (.int ?_) .nil)))
      all_goals simp [nextK, nextB, h]
    · simp [icmp, len_steps] at h2
      have h3 : a < nS k := by omega
      refine NthS.mk [T.int .u8 (.th fun _ => (lk k).getD a.toNat 0)] ?_ ?_ ?_
      · simp; omega
      · simp only [rows_steps, Th.den_th]
        exact nth_rows8 _ _ (by omega) (by rw [lk_len]; omega)
      · cbv
        refine .tup' (.cons (.int ?_) (.cons (.bool ?_) (.cons (.int ?_) .nil)))
        all_goals simp [nextK, nextB, h, h3]
  · refine BrS.mk (fun h2 => ?_) (fun h2 => ?_) <;> cbv
    · simp [icmp] at h2
      subst h2
      refine .tup' (.cons (.int ?_) (.cons (.bool ?_) (.cons (.int ?_) .nil)))
      all_goals simp [nextK, nextB, h]
    · simp [icmp] at h2
      have h3 : 0 < a := by omega
      have hw : IntKind.i64.wrap (a - 1) = a - 1 := i64_in _ (by split at hc <;> omega)
      refine NthS.mk [T.int .u8 (.th fun _ => (lk k).getD (a - 1).toNat 0)] ?_ ?_ ?_
      · simp only [iop, hw, Th.den_th]; omega
      · simp only [iop, hw, rows_steps, Th.den_th]
        exact nth_rows8 _ _ (by omega) (by rw [lk_len]; split at hc <;> omega)
      · cbv
        refine (rundo_ret hP _).call (.cons (.pure rfl) .nil) rfl ?_
        cbv
        refine .tup' (.cons (.int ?_) (.cons (.bool ?_) (.cons (.int ?_) .nil)))
        all_goals simp [nextK, nextB, h, h3]

set_option maxHeartbeats 2000000 in
theorem radv_ret (o k a : Int) (u d : Bool) : Ret P 12 [saga o k a u, AB (.th fun _ => d)] (advR o k a u d) := by
  have hr := next_range k a u
  refine Ret.args (args' := [sagaL o k a u, AB (.lit d)]) ?_ (.cons (s_l ..) (.cons (.bool rfl) .nil))
  cases u <;> cases d <;> (
    refine e12 hP ?_
    cbv
    refine (rnext_ret hP o k a _).call (.cons (l_s ..) .nil) rfl ?_
    cbv
    repeat' (first | (refine BrS.mk (fun h => ?_) (fun h => ?_) <;> cbv) | (refine (rturns_ret hP _).call (.cons (.pure rfl) .nil) rfl ?_; cbv)))
  all_goals
    simp [icmp] at *
    refine .tup' (.cons (.agg' (.cons (.int ?_) (.cons (.int ?_) (.cons (.int ?_) (.cons (.bool ?_) .nil))))) (.cons (.int ?_) .nil))
    all_goals simp_all [advO, advK, advA, advU, advE, iop]
  all_goals exact i64_in _ (by omega)

set_option maxHeartbeats 1000000 in
theorem rleft_ret (o k a : Int) (u : Bool) : Ret P 14 [saga o k a u] (.tup [AI .i64 (.th fun _ => leftS k a u), AI .i64 (.th fun _ => checkS k a u)]) := by
  have hn := nS_cases k
  refine Ret.args (args' := [sagaL o k a u]) ?_ (.cons (s_l ..) .nil)
  cases u <;> (
    refine e14 hP ?_
    cbv
    refine (rcheck_ret hP o k a _).call (.cons (l_s ..) .nil) rfl ?_
    cbv
    refine BrS.mk (fun h => ?_) (fun h => ?_) <;> cbv)
  case false.refine_1 | true.refine_1 =>
    simp [icmp] at h
    refine .tup' (.cons (.int ?_) (.cons (.int rfl) .nil))
    simp [leftS, h]
  all_goals simp [icmp] at h
  · have hc := h
    simp [checkS] at hc
    refine ADraw.of (ty hP) (mo hP) rfl ?_
    cbv
    repeat (apply DOp.is; · intro J hJ; cbv; exact hJ
            cbv)
    apply DOp.is
    · intro J hJ
      cbv
      exact (rsteps_ret hP _).call (.cons (.pure rfl) .nil) rfl hJ
    cbv
    repeat (apply DOp.is; · intro J hJ; cbv; exact hJ
            cbv)
    refine .tup' (.cons (.int ?_) (.cons (.int ?_) .nil))
    · simp [leftS, h, iop, len_steps]
      exact i64_in _ (by omega)
    · simp [h]
  · refine .tup' (.cons (.int ?_) (.cons (.int ?_) .nil))
    all_goals simp [leftS, h]

set_option maxHeartbeats 1000000 in
theorem same_ret (l : List Int) (f : Unit → T) (hf : (T.vslS 1 f).rows = rows8 l) (hl : l.length ≤ 9223372036854775807) : Ret P 22 [.c (.vslS 1 f), .c (.vslS 1 f)] (AB (.lit true)) := by
  have hlen : (T.vslS 1 f).rows.length = l.length := by rw [hf, len_rows8]
  refine e22 hP ?_
  cbv
  refine BrS.f (by simp [icmp]) ?_
  cbv
  let E : Nat → List AV := fun i => [.c (.vslS 1 f), .c (.vslS 1 f), .junk, .junk, .junk, .junk, .junk, .junk, .junk, .junk, .junk, .junk, AI .i64 (.th fun _ => (l.length : Int)), AI .i64 (.th fun _ => (i : Int)), .junk, .junk, .junk, .junk, .junk, .junk, .junk, .junk, .junk, .junk, .junk, .junk]
  refine ACode.inv (ty hP) (fun n e o => ∃ i, i ≤ l.length ∧ n = l.length - i ∧ e = E i ∧ o = []) l.length (E 0) [] (Ren.of [] rfl rfl ?_ .nil) ⟨0, by omega, by omega, rfl, rfl⟩ ?_
  · repeat' (first | exact RVs.nil | refine RVs.cons ?_ ?_)
    all_goals first | exact .junk | exact .pure rfl | exact .int rfl | (refine .int ?_; simp [hlen])
  · rintro n e o ⟨i, hi, hn, rfl, rfl⟩ J hJ
    cbv
    refine BrS.mk (fun h => ?_) (fun h => ?_) <;> cbv
    · simp [icmp] at h
      have hlt : i < l.length := by omega
      refine ADraw.of (ty hP) (mo hP) rfl ?_
      cbv
      repeat (apply DOp.is; · intro J hJ; cbv; first | exact hJ | (refine NthS.mk [T.int .u8 (.th fun _ => l[i])] (by simp) (by simp only [hf, Th.den_th]; exact get_rows8 l i _ (List.getElem?_eq_getElem hlt)) ?_; exact hJ)
              cbv)
      refine BrS.f (by simp [icmp]) ?_
      cbv
      refine hJ (l.length - (i + 1)) _ _ (E (i + 1)) [] (by omega) (Ren.of [] rfl rfl ?_ .nil) ⟨i + 1, by omega, by omega, rfl, rfl⟩
      repeat' (first | exact RVs.nil | refine RVs.cons ?_ ?_)
      all_goals first | exact .junk | exact .pure rfl | exact .int rfl | (refine .int ?_; simp [iop]; exact i64_in ((i : Int) + 1) (by omega))
    · exact .bool rfl
end Go.Proofs.Ytlckckkchdabnaa
