/- The abstract machine, part 24: what comes of an append, said anew. -/
import Derived.Test.YtchbobndobpocaaDoorA23
namespace Go.Abs
variable [Gl]
theorem AAppend.can {P : Program} {δ : Nat → Option TD} {t xt : TypeId} {s x : AV} {ob : List AO} {K : AV → List AO → Prop} (h : AAppend P δ t xt s x ob (fun z o => ∃ y o', Can (lenL ob) z o y o' ∧ K y o')) : AAppend P δ t xt s x ob K := by
  refine ⟨fun ty w F μ vs vx hvs hvx hs => ?_⟩
  obtain ⟨v, z, o, μ', w', g1, g2, g3, g4, y, o', ⟨π, k1, k2, k3, k4⟩, k5⟩ := h.run ty w F μ vs vx hvs hvx hs
  have hren := (Ren.of (m := lenL ob) (e := [z]) (e' := [y]) π k1 k2 (.cons k3 .nil) k4).run w' F μ' #[v] (by rw [lenL_eq, ← hs.len]; exact g4.len) ⟨rfl, fun i a u h1 h2 => by
    cases i with
    | zero => simp at h1 h2; subst h1; subst h2; exact g2
    | succ i => simp at h1⟩ g3
  obtain ⟨μ'', r1, r2, r3⟩ := hren
  refine ⟨v, y, o', μ'', w', g1, r1.2 0 y v rfl rfl, r2, ?_, k5⟩
  have hm : lenL ob = μ.length := by rw [lenL_eq, hs.len]
  rw [hm] at r3
  exact ((g4.toB (Nat.le_refl _)).trans r3).toExt rfl
end Go.Abs
