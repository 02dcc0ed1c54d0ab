/- The abstract machine, part 14: loops. -/
import Derived.Test.YtchbobndobpocaaDoorA13
import Derived.LoopN
import Derived.Deep.LoopGhost
namespace Go.Abs
variable [Gl]
section
variable {P : Program} {δ : Nat → Option TD}

/-- A round's end: on to the next, or out of the loop. -/
def loopK (J : List AV → List AO → Prop) (Q : AE → List AV → List AO → Prop) : AE → List AV → List AO → Prop := fun x e o => match x with
  | .normal => J e o
  | x => Q x e o

/-- n rounds at most, carried out one behind the other. -/
def aloop (P : Program) (δ : Nat → Option TD) (m : Nat) (c : Code) (Q : AE → List AV → List AO → Prop) : Nat → List AV → List AO → Prop
  | 0, _, _ => False
  | n + 1, env, ob => aw P δ m c env ob (loopK (aloop P δ m c Q n) Q)

theorem rounds_of (hty : TyOk P δ) {m : Nat} {c : Code} {Q : AE → List AV → List AO → Prop} {w0 : World} {F : Nat → Prop} {μ0 : Mu} {ds : List Deferred} : ∀ (n : Nat) {env : List AV} {ob : List AO} {w : World} {μ : Mu} {a : Act},
    aloop P δ m c Q n env ob → ExtB m w0 μ0 w μ → a.defers = ds → FR w F μ env a.tmps → St w F μ ob → Code.rounds P c (QC m w0 F μ0 ds Q) n a w
  | 0, _, _, _, _, _, h, _, _, _, _ => h.elim
  | n + 1, env, ob, w, μ, a, h, hx, hd, hf, hs => by
    rw [rounds_succ]
    refine Code.wp_mono (fun e a' w' hq => ?_) ((aw_sound hty c h).run w F μ a hx.len hf hs)
    cases e with
    | normal =>
      obtain ⟨e, o, μ', h1, h2, h3, h4, h5⟩ := hq
      exact rounds_of hty n h1 (hx.trans h4) (h5.trans hd) h2 h3
    | exit i => rw [hd] at hq; exact QC.ext hx hq
    | ret => rw [hd] at hq; exact QC.ext hx hq
    | goto l => exact hq.elim
    | panic c => exact hq.elim
    | outgrown => exact hq.elim

/-- **A loop of few rounds, all carried out.** -/
theorem ACode.rounds (hty : TyOk P δ) (n : Nat) {m : Nat} {c : Code} {env : List AV} {ob : List AO} {Q : AE → List AV → List AO → Prop} (h : aloop P δ m c Q n env ob) : ACode P m (.loop c) env ob Q :=
  ⟨fun w F μ a hm hf hs => wp_loop_rounds n (rounds_of hty n h ((Ext.refl w μ).toB hm) rfl hf hs)⟩

/-- **A loop, by an invariant that bears a number.** -/
theorem ACode.inv (hty : TyOk P δ) {m : Nat} {c : Code} {env : List AV} {ob : List AO} {Q : AE → List AV → List AO → Prop} (I : Nat → List AV → List AO → Prop) (n₀ : Nat) (e₀ : List AV) (o₀ : List AO) (hr : Ren m env ob e₀ o₀) (h0 : I n₀ e₀ o₀)
    (round : ∀ n e o, I n e o → ∀ J : List AV → List AO → Prop, (∀ (k : Nat) e1 o1 e2 o2, k < n → Ren m e1 o1 e2 o2 → I k e2 o2 → J e1 o1) → aw P δ m c e o (loopK J Q)) : ACode P m (.loop c) env ob Q := by
  refine ⟨fun w F μ a hm hf hs => ?_⟩
  obtain ⟨μ1, hf1, hs1, hx1⟩ := hr.run w F μ a.tmps hm hf hs
  refine wp_loop_ghost (fun n a' w' => ∃ e o μ', I n e o ∧ FR w' F μ' e a'.tmps ∧ St w' F μ' o ∧ ExtB m w μ w' μ' ∧ a'.defers = a.defers) n₀ ⟨e₀, o₀, μ1, h0, hf1, hs1, hx1, rfl⟩ ?_
  rintro n a' w' ⟨e, o, μ', hI, hf', hs', hx', hd'⟩
  have := round n e o hI (fun e1 o1 => ∃ k e2 o2, k < n ∧ Ren m e1 o1 e2 o2 ∧ I k e2 o2) (fun k e1 o1 e2 o2 h1 h2 h3 => ⟨k, e2, o2, h1, h2, h3⟩)
  refine Code.wp_mono (fun x a'' w'' hq => ?_) ((aw_sound hty c this).run w' F μ' a' hx'.len hf' hs')
  cases x with
  | normal =>
    obtain ⟨e1, o1, μ'', ⟨k, e2, o2, h1, h2, h3⟩, h4, h5, h6, h7⟩ := hq
    obtain ⟨μ3, hf3, hs3, hx3⟩ := h2.run w'' F μ'' a''.tmps h6.len h4 h5
    exact ⟨k, h1, e2, o2, μ3, h3, hf3, hs3, (hx'.trans h6).trans hx3, by rw [h7, hd']⟩
  | exit i => rw [hd'] at hq; exact QC.ext hx' hq
  | ret => rw [hd'] at hq; exact QC.ext hx' hq
  | goto l => exact hq.elim
  | panic c => exact hq.elim
  | outgrown => exact hq.elim

/-- The state is said anew ahead of a piece of code. -/
theorem ACode.ren {m : Nat} {c : Code} {env env' : List AV} {ob ob' : List AO} {Q : AE → List AV → List AO → Prop} (hr : Ren m env ob env' ob') (h : ACode P m c env' ob' Q) : ACode P m c env ob Q := by
  refine ⟨fun w F μ a hm hf hs => ?_⟩
  obtain ⟨μ1, hf1, hs1, hx1⟩ := hr.run w F μ a.tmps hm hf hs
  exact Code.wp_mono (fun e a' w' hq => hq.ext hx1) (h.run w F μ1 a hx1.len hf1 hs1)

theorem Ren.refl {m : Nat} (e : List AV) (o : List AO) : Ren m e o e o := ⟨fun w F μ tmps hm hf hs => ⟨μ, hf, hs, (Ext.refl w μ).toB hm⟩⟩

end
end Go.Abs
