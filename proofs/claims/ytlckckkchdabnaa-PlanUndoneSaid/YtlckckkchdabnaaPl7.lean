import Derived.Test.YtlckckkchdabnaaPl4
import Derived.Test.YtlckckkchdabnaaA17
namespace Go.Proofs.Ytlckckkchdabnaa
open Go.Abs Go.IntWalk
variable {P : Program} (hP : P = Try.prog)
theorem fit25 {x : AV} (h : FitV td 25 x) : ∃ k, x = AI .u8 (.th fun _ => k) ∧ (Lit.int .u8 k).wf = true := by
  obtain ⟨l, hf, rfl⟩ := fitV_get h (d := (td 25).get rfl) rfl
  obtain ⟨n, rfl, w⟩ := fit_int (d := (td 25).get rfl) rfl rfl hf
  exact ⟨n, rfl, w⟩
theorem undo_inj {a b : Int} (h1 : undoB a = true) (h2 : undoB b = true) (h : undoK a = undoK b) : a = b := by
  simp [undoB] at h1 h2
  rcases h1 with ((h1 | h1) | h1) | h1 <;> rcases h2 with ((h2 | h2) | h2) | h2 <;> subst h1 <;> subst h2 <;> revert h <;> decide
theorem undo_more {a : Int} (h1 : undoB a = true) : undoB (undoK a) = false ∧ turnsS (undoK a) = false := by
  simp [undoB] at h1
  rcases h1 with ((h1 | h1) | h1) | h1 <;> subst h1 <;> decide
theorem turns_in {a : Int} (h : turnsS a = true) : a = 1 ∨ a = 2 ∨ a = 3 ∨ a = 4 ∨ a = 5 ∨ a = 10 := by
  simp only [turnsS, idx, idxF] at h
  repeat' (split at h; omega)
  simp at h

include hP
set_option maxHeartbeats 4000000 in
theorem planUndone_law : Law P td 7 [25, 25] := by
  intro xs hx
  obtain ⟨x, ys, rfl, h1, h2⟩ := fitVs_cons hx
  obtain ⟨y, zs, rfl, h3, h4⟩ := fitVs_cons h2
  obtain rfl := fitVs_nil h4
  obtain ⟨a, rfl, -⟩ := fit25 h1
  obtain ⟨b, rfl, -⟩ := fit25 h3
  clear hx h1 h2 h3 h4
  refine e7 hP ?_
  cbv
  refine (lives_ret hP).call .nil rfl ?_
  cbv
  refine (undo_ret hP a).as (.tup [AI .u8 (.th fun _ => undoK a), AB (.lit (undoB a))]) (.tup' (.cons (.pure rfl) (.cons (.bool rfl) .nil))) (.cons (.pure rfl) .nil) rfl ?_
  have tail : ∀ c, turnsS a = c → (c = true → a = 1 ∨ a = 2 ∨ a = 3 ∨ a = 4 ∨ a = 5 ∨ a = 10) := fun c h hc => turns_in (h.trans hc)
  generalize ht : turnsS a = c at *
  cases g1 : undoB a
  · cbv
    refine (undo_ret hP b).call (.cons (.pure rfl) .nil) rfl ?_
    cbv
    refine (turns_ret hP a).as (AB (.lit c)) (.bool ht) (.cons (.pure rfl) .nil) rfl ?_
    cases c
    · cbv; exact ⟨_, rfl, rfl⟩
    have ta := tail _ rfl rfl
    cbv
    repeat' (first | exact ⟨_, rfl, rfl⟩ | (refine ACode.rounds (ty hP) 7 ?_; cbv) | (refine e20 hP ?_; cbv) | (refine BrS.mk (fun q => ?_) (fun q => ?_) <;> cbv))
    exfalso
    simp [icmp] at *
    omega
  · obtain ⟨f1, f2⟩ := undo_more g1
    cbv
    refine (undo_ret hP b).as (.tup [AI .u8 (.th fun _ => undoK b), AB (.lit (undoB b))]) (.tup' (.cons (.pure rfl) (.cons (.bool rfl) .nil))) (.cons (.pure rfl) .nil) rfl ?_
    cases g2 : undoB b <;> cbv
    rotate_left
    refine BrS.mk (fun g3 => ?_) (fun g3 => ?_) <;> cbv
    refine BrS.mk (fun g4 => ?_) (fun g4 => ?_) <;> cbv
    · simp [icmp] at g3 g4
      exact (g3 (undo_inj g1 g2 g4)).elim
    all_goals
      refine (undo_ret hP _).as (.tup [AI .u8 (.th fun _ => undoK (undoK a)), AB (.lit false)]) (.tup' (.cons (.pure rfl) (.cons (.bool f1) .nil))) (.cons (.pure rfl) .nil) rfl ?_
      cbv
      refine (turns_ret hP _).as (AB (.lit false)) (.bool f2) (.cons (.pure rfl) .nil) rfl ?_
      cbv
      refine (turns_ret hP a).as (AB (.lit c)) (.bool ht) (.cons (.pure rfl) .nil) rfl ?_
      cases c
      · cbv; exact ⟨_, rfl, rfl⟩
      have ta := tail _ rfl rfl
      cbv
      repeat' (first | exact ⟨_, rfl, rfl⟩ | (refine ACode.rounds (ty hP) 7 ?_; cbv) | (refine e20 hP ?_; cbv) | (refine BrS.mk (fun q => ?_) (fun q => ?_) <;> cbv))
      exfalso
      simp [icmp] at *
      omega
end Go.Proofs.Ytlckckkchdabnaa
