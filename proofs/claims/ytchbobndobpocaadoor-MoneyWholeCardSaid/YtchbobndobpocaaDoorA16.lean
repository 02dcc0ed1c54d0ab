/- The abstract machine, part 16: what a call hands back, said as one value. -/
import Derived.Test.YtchbobndobpocaaDoorA15
namespace Go.Abs
variable [Gl]

omit [Gl] in
/-- The condition is known. -/
theorem BrS.t {f : Unit → Bool} {A B : Unit → Prop} (h : f () = true) (ha : A ()) : BrS f A B := .mk (fun _ => ha) (fun h' => by rw [h] at h'; cases h')
omit [Gl] in
theorem BrS.f {f : Unit → Bool} {A B : Unit → Prop} (h : f () = false) (hb : B ()) : BrS f A B := .mk (fun h' => by rw [h] at h'; cases h') (fun _ => hb)

omit [Gl] in
/-- No object is kept: where the objects would lie makes no difference. -/
theorem RV.rebase {base base' : Nat} {o : List AO} {x y : AV} (h : RV base [] o x y) : RV base' [] o x y := by
  induction h with
  | junk => exact .junk
  | pure h => exact .pure h
  | c h => exact .c h
  | ref h => cases h
  | eref h _ => cases h
  | sl h _ _ _ => cases h
  | mp h => cases h
  | nilS h _ _ _ => cases h
  | fz rows r h1 h2 h3 h4 h5 => exact .fz rows r h1 h2 h3 h4 h5
  | fzS rows f h1 h2 h3 h4 h5 => exact .fzS rows f h1 h2 h3 h4 h5
  | fn l1 l2 _ _ i1 i2 => exact .fn l1 l2 i1 i2
  | ifc _ ih => exact .ifc ih
  | agg h1 _ ih => exact .agg h1 ih
  | tup h1 _ ih => exact .tup h1 ih

omit [Gl] in
/-- The same value in other words, no object in sight. -/
theorem RV.same {base : Nat} {x y : AV} (h : RV base [] [] x y) {w : World} {F : Nat → Prop} {μ : Mu} : ∀ {v}, VR w F μ x v → VR w F μ y v := by
  generalize ho : ([] : List AO) = o at h
  generalize hπ : ([] : List Nat) = π at h
  induction h with
  | junk => intro v _; exact .junk
  | pure h => intro v hv; exact hv
  | c h => intro v hv; cases hv with | c hv => exact .c (hv.te h)
  | ref h => subst hπ; cases h
  | eref h _ => subst hπ; cases h
  | sl h _ _ _ => subst hπ; cases h
  | mp h => subst hπ; cases h
  | nilS h _ _ _ => subst hπ; cases h
  | fz rows r h1 h2 h3 h4 h5 => subst ho; cases h1
  | fzS rows f h1 h2 h3 h4 h5 => subst ho; cases h1
  | fn l1 l2 _ _ i1 i2 =>
    intro v hv
    cases hv with
    | fn a1 a2 a3 a4 =>
      refine .fn (by rw [a1, l1]) (by rw [a2, l2]) (fun i y v hy hv => ?_) (fun i y v hy hv => ?_)
      · have hlt := (List.getElem?_eq_some_iff.1 hy).1
        exact i1 i _ y (List.getElem?_eq_getElem (l1 ▸ hlt)) hy (a3 i _ v (List.getElem?_eq_getElem (l1 ▸ hlt)) hv)
      · have hlt := (List.getElem?_eq_some_iff.1 hy).1
        exact i2 i _ y (List.getElem?_eq_getElem (l2 ▸ hlt)) hy (a4 i _ v (List.getElem?_eq_getElem (l2 ▸ hlt)) hv)
  | ifc _ ih => intro v hv; cases hv with | ifc h => exact .ifc (ih h)
  | agg h1 _ ih =>
    intro v hv
    cases hv with
    | agg a1 a2 a3 =>
      refine .agg (by rw [a1, h1]) (fun i y v hy hv => ?_) a3
      have hlt := (List.getElem?_eq_some_iff.1 hy).1
      exact ih i _ y (List.getElem?_eq_getElem (h1 ▸ hlt)) hy (a2 i _ v (List.getElem?_eq_getElem (h1 ▸ hlt)) hv)
  | tup h1 _ ih =>
    intro v hv
    cases hv with
    | tup a1 a2 =>
      refine .tup (by rw [a1, h1]) (fun i y v hy hv => ?_)
      have hlt := (List.getElem?_eq_some_iff.1 hy).1
      exact ih i _ y (List.getElem?_eq_getElem (h1 ▸ hlt)) hy (a2 i _ v (List.getElem?_eq_getElem (h1 ▸ hlt)) hv)

omit [Gl] in
theorem RVs.same {base : Nat} {xs ys : List AV} (h : RVs base [] [] xs ys) {w : World} {F : Nat → Prop} {μ : Mu} {vs : List Value} (hv : VRs w F μ xs vs) : VRs w F μ ys vs := by
  refine ⟨by rw [hv.1, h.len], fun i y v hy hu => ?_⟩
  have hlt := (List.getElem?_eq_some_iff.1 hy).1
  exact (h.get i _ y (List.getElem?_eq_getElem (h.len ▸ hlt)) hy).same (hv.2 i _ v (List.getElem?_eq_getElem (h.len ▸ hlt)) hu)

section
variable {P : Program} {δ : Nat → Option TD}

/-- The call hands back y (all objects dropped or frozen). -/
def Ret (P : Program) (f : FuncId) (args : List AV) (y : AV) : Prop := ACall P f args [] (fun x o => RV 0 [] o x y)

theorem Ret.call {f : FuncId} {args args' : List AV} {y : AV} {K : AV → List AO → Prop} {ob : List AO} (h : Ret P f args' y) (ha : RVs 0 [] [] args args') (hp : pureL args' = true) (hk : K y ob) : ACall P f args ob K := by
  refine ACall.args (ACall.frame h hp fun x o hr => ⟨[], y, [], rfl, hr.rebase, .nil, ?_⟩) (fun w F μ vs hv => ha.same hv)
  rw [appL_eq, List.append_nil]; exact hk

theorem Ret.args {f : FuncId} {args args' : List AV} {y : AV} (h : Ret P f args' y) (ha : RVs 0 [] [] args args') : Ret P f args y := ACall.args h fun w F μ vs hv => ha.same hv

/-- A call's value, said anew. -/
theorem ACall.retag {f : FuncId} {args : List AV} {ob : List AO} {K0 K : AV → List AO → Prop} (h : ACall P f args ob K0) (hk : ∀ x o, K0 x o → ∃ x', (∀ w F μ v, VR w F μ x v → VR w F μ x' v) ∧ K x' o) : ACall P f args ob K := by
  refine ⟨fun w F μ cargs hv hs => ?_⟩
  have post : ∀ e w', (∃ v x ob' μ', e = Ending.returned v ∧ VR w' F μ' x v ∧ St w' F μ' ob' ∧ Ext w μ w' μ' ∧ K0 x ob') → ∃ v x ob' μ', e = Ending.returned v ∧ VR w' F μ' x v ∧ St w' F μ' ob' ∧ Ext w μ w' μ' ∧ K x ob' := by
    intro e w' ⟨v, x, ob', μ', g1, g2, g3, g4, g5⟩
    obtain ⟨x', k1, k2⟩ := hk x ob' g5
    exact ⟨v, x', ob', μ', g1, k1 _ _ _ _ g2, g3, g4, k2⟩
  have hr := h.run w F μ cargs hv hs
  unfold CallsX at hr ⊢
  split at hr
  · obtain ⟨h1, h2, h3, h4⟩ := hr
    exact ⟨h1, h2, h3, h4.mono post⟩
  · exact post _ _ hr
  · exact hr.elim

/-- The call hands back y, that is y'. -/
theorem Ret.as {f : FuncId} {args args' : List AV} {y : AV} {K : AV → List AO → Prop} {ob : List AO} (h : Ret P f args' y) (y' : AV) (hy : RV 0 [] [] y y') (ha : RVs 0 [] [] args args') (hp : pureL args' = true) (hk : K y' ob) : ACall P f args ob K :=
  (h.call (K := fun x o => x = y ∧ o = ob) ha hp ⟨rfl, rfl⟩).retag fun x o hx => ⟨y', fun w F μ v hv => hy.same (by rw [← hx.1]; exact hv), by rw [hx.2]; exact hk⟩

/-- One's own lists are lent to a call that only reads. -/
theorem Ret.lend {f : FuncId} {args args' : List AV} {y : AV} {K : AV → List AO → Prop} {ob : List AO} (h : Ret P f args' y) (ha : Fzs ob args args') (hf : flatA y = true) (hk : K y ob) : ACall P f args ob K := by
  refine ⟨fun w F μ cargs hv hs => ?_⟩
  have hs0 : St w F [] [] :=
    { len := rfl, inj := fun o o' b h => by simp at h, lt := fun o b h => by simp at h, dead := fun o h => by simp at h, frame := fun b h => ⟨(hs.frame b h).1, by simp⟩, live := fun o b h => by simp at h, gl := hs.gl.sub fun b _ h => h.elim (fun h => by simp at h) .inr }
  have hv' : VRs w F [] args' cargs.toList := ha.sound hs (fun b _ h => by
    rcases h with h | h
    · simp at h
    · exact h) hv
  have hr := h.run w F [] cargs hv' hs0
  have post : ∀ e w', (∃ v x ob' μ', e = Ending.returned v ∧ VR w' F μ' x v ∧ St w' F μ' ob' ∧ Ext w [] w' μ' ∧ RV 0 [] ob' x y) → ∃ v x ob' μ', e = Ending.returned v ∧ VR w' F μ' x v ∧ St w' F μ' ob' ∧ Ext w μ w' μ' ∧ K x ob' := by
    intro e w' ⟨v, x, ob', μ', g1, g2, g3, g4, g5⟩
    obtain ⟨q1, q2⟩ := hs.behind g4
    have hy : VR w' F [] y v := g5.sound g3 (fun b h => by
      rcases h with h | h
      · simp at h
      · exact .inr h) (fun q p h => by simp at h) (fun q p h => by simp at h) (fun n _ b hb h => by
      rcases h with h | h
      · simp at h
      · exact (g3.frame b h).2 (List.mem_of_getElem? hb)) g2
    exact ⟨v, y, ob, μ, g1, hy.flat hf, q1, q2, hk⟩
  unfold CallsX at hr ⊢
  split at hr
  · obtain ⟨h1, h2, h3, h4⟩ := hr
    exact ⟨h1, h2, h3, h4.mono post⟩
  · exact post _ _ hr
  · exact hr.elim

end
end Go.Abs
