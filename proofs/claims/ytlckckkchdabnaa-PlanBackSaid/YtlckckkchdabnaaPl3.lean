/- plan: advance, left. -/
import Derived.Test.YtlckckkchdabnaaPl2
namespace Go.Proofs.Ytlckckkchdabnaa
open Go.Abs Go.IntWalk
variable {P : Program} (hP : P = Try.prog)
def advE (k a : Int) (u : Bool) : Int := if checkS k a u ≠ 0 then checkS k a u else if nextB k a u = false then 9 else 0
def advO (o k a : Int) (u : Bool) : Int := if advE k a u = 0 then o else 0
def advK (k a : Int) (u : Bool) : Int := if advE k a u = 0 then k else 0
def advA (k a : Int) (u d : Bool) : Int := if advE k a u = 0 then (if d = true then (if u = true then a - 1 else a + 1) else a) else 0
def advU (k a : Int) (u d : Bool) : Bool := if advE k a u = 0 then (if d = true then u else u || turnsS (nextK k a u)) else false
abbrev advR (o k a : Int) (u d : Bool) : AV := .tup [.agg [AI .i64 (.th fun _ => advO o k a u), AI .u8 (.th fun _ => advK k a u), AI .i64 (.th fun _ => advA k a u d), AB (.th fun _ => advU k a u d)], AI .i64 (.th fun _ => advE k a u)]
theorem next_range (k a : Int) (u : Bool) (h : advE k a u = 0) : 0 ≤ a ∧ a ≤ 5 := by
  have hn := nS_cases k
  unfold advE at h
  split at h
  · omega
  · rename_i h1
    simp [checkS] at h1
    cases u <;> simp at h1 <;> (try split at h1) <;> omega
include hP
set_option maxHeartbeats 2000000 in
theorem adv_ret (o k a : Int) (u d : Bool) : Ret P 11 [saga o k a u, AB (.th fun _ => d)] (advR o k a u d) := by
  have hr := next_range k a u
  refine Ret.args (args' := [sagaL o k a u, AB (.lit d)]) ?_ (.cons (s_l ..) (.cons (.bool rfl) .nil))
  cases u <;> cases d <;> (
    refine e11 hP ?_
    cbv
    refine (next_ret hP o k a _).call (.cons (l_s ..) .nil) rfl ?_
    cbv
    refine BrS.mk (fun h => ?_) (fun h => ?_) <;> cbv
    rotate_left
    refine BrS.mk (fun h2 => ?_) (fun h2 => ?_) <;> cbv
    rotate_left
    try (refine (turns_ret hP _).call (.cons (.pure rfl) .nil) rfl ?_; cbv))
  all_goals
    simp [icmp] at *
    refine .tup' (.cons (.agg' (.cons (.int ?_) (.cons (.int ?_) (.cons (.int ?_) (.cons (.bool ?_) .nil))))) (.cons (.int ?_) .nil))
    all_goals simp_all [advO, advK, advA, advU, advE, iop]
  all_goals exact i64_in _ (by omega)

def leftS (k a : Int) (u : Bool) : Int := if checkS k a u ≠ 0 then 0 else if u = true then a else nS k - a
def stepA (a : Int) (u : Bool) : Int := if u = true then a - 1 else a + 1
omit hP in
theorem good_cases {k a : Int} {u : Bool} (h : checkS k a u = 0) : (k = 1 ∨ k = 2 ∨ k = 3) ∧ (a = 0 ∨ a = 1 ∨ a = 2 ∨ a = 3 ∨ a = 4 ∨ a = 5) := by
  have hn := nS_cases k
  simp [checkS] at h
  cases u <;> simp at h <;> (try split at h) <;> constructor <;> omega
omit hP in
theorem left_step {k a : Int} {u : Bool} (h : checkS k a u = 0) (hb : nextB k a u = true) : checkS k (stepA a u) u = 0 ∧ leftS k (stepA a u) u + 1 = leftS k a u ∧ 1 ≤ leftS k a u := by
  obtain ⟨h1, h2⟩ := good_cases h
  rcases h1 with rfl | rfl | rfl <;> rcases h2 with rfl | rfl | rfl | rfl | rfl | rfl <;> cases u <;> revert h hb <;> decide
omit hP in
theorem left_end {k a : Int} {u : Bool} (h : checkS k a u = 0) (hb : nextB k a u = false) : leftS k a u = 0 := by
  obtain ⟨h1, h2⟩ := good_cases h
  rcases h1 with rfl | rfl | rfl <;> rcases h2 with rfl | rfl | rfl | rfl | rfl | rfl <;> cases u <;> revert h hb <;> decide
omit hP in
theorem left_le {k a : Int} {u : Bool} (h : checkS k a u = 0) : 0 ≤ leftS k a u ∧ leftS k a u ≤ 5 := by
  obtain ⟨h1, h2⟩ := good_cases h
  rcases h1 with rfl | rfl | rfl <;> rcases h2 with rfl | rfl | rfl | rfl | rfl | rfl <;> cases u <;> revert h <;> decide

set_option maxHeartbeats 2000000 in
theorem left_ret (o k a : Int) (u : Bool) : Ret P 13 [saga o k a u] (.tup [AI .i64 (.th fun _ => leftS k a u), AI .i64 (.th fun _ => checkS k a u)]) := by
  refine e13 hP ?_
  cbv
  refine (check_ret hP o k a _).call (.cons (.pure rfl) .nil) rfl ?_
  cbv
  refine BrS.mk (fun h => ?_) (fun h => ?_) <;> cbv
  · simp [icmp] at h
    refine .tup' (.cons (.int ?_) (.cons (.int rfl) .nil))
    simp [leftS, h]
  · simp [icmp] at h
    let E : Int → List AV := fun n => [.junk, .ref 0 0, .junk, .junk, .junk, AI .i64 (.th fun _ => n), .junk, .junk, .junk, .junk, .junk, .junk, .junk, .junk, .junk, .junk, .junk, .junk, .junk, .junk, .junk, .junk, .junk, .junk]
    let B : Int → AO := fun a => .box [AI .i64 (.th fun _ => o), AI .u8 (.th fun _ => k), AI .i64 (.th fun _ => a), AB (.th fun _ => u)]
    refine ACode.inv (ty hP) (fun N e ob => ∃ a' n, checkS k a' u = 0 ∧ 0 ≤ n ∧ n + leftS k a' u = leftS k a u ∧ N = (leftS k a' u).toNat ∧ e = E n ∧ ob = [B a']) _ (E 0) [B a] (Ren.of [0] rfl rfl ?_ (.cons rfl (.box' ?_) .nil)) ⟨a, 0, h, by omega, by omega, rfl, rfl, rfl⟩ ?_
    · repeat' (first | exact RVs.nil | refine RVs.cons ?_ ?_)
      all_goals first | exact .junk | exact .pure rfl | exact .int rfl | exact .ref (q := 0) rfl
    · repeat' (first | exact RVs.nil | refine RVs.cons ?_ ?_)
      all_goals exact .pure rfl
    · rintro N e ob ⟨a', n, hc, hn, hl, rfl, rfl, rfl⟩ J hJ
      have hle := left_le h
      have hle' := left_le hc
      cbv
      refine (adv_ret hP o k a' u true).call (.cons (.pure rfl) (.cons (.bool rfl) .nil)) rfl ?_
      cbv
      refine BrS.mk (fun h2 => ?_) (fun h2 => ?_) <;> cbv
      · simp [icmp, advE, hc] at h2
        refine .tup' (.cons (.int ?_) (.cons (.int ?_) .nil))
        · have := left_end hc h2
          simp; omega
        · simp [h]
      · simp [icmp, advE, hc] at h2
        obtain ⟨g1, g2, g3⟩ := left_step hc h2
        refine hJ (leftS k (stepA a' u) u).toNat _ _ (E (n + 1)) [B (stepA a' u)] (by omega) (Ren.of [0] rfl rfl ?_ (.cons rfl (.box' ?_) .nil)) ⟨stepA a' u, n + 1, g1, by omega, by omega, rfl, rfl, rfl⟩
        · repeat' (first | exact RVs.nil | refine RVs.cons ?_ ?_)
          all_goals first | exact .junk | exact .ref (q := 0) rfl | (refine .int ?_; exact i64_in _ (by omega))
        · refine .cons (.int ?_) (.cons (.int ?_) (.cons (.int ?_) (.cons (.bool ?_) .nil)))
          all_goals simp [advO, advK, advA, advU, advE, hc, h2, stepA]
end Go.Proofs.Ytlckckkchdabnaa
