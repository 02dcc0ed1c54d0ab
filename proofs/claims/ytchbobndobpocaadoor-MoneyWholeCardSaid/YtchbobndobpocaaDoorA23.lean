/- The abstract machine, part 23: contracts of the kit's as calls; laws whose rows list variables. -/
import Derived.Test.YtchbobndobpocaaDoorA22
import Derived.Test.YtchbobndobpocaaDoorA17
import Derived.Handed
import Derived.LaidLaws
import Derived.Stop.Joined
namespace Go.Abs
open Go.RowKit Go.ChangeShapes Go.WideShapes Go.ChangeAt
variable [Gl]

theorem St.below {w w' : World} {F : Nat → Prop} {μ : Mu} {ob : List AO} (hs : St w F μ ob) (h : Below w.heap.size w w') : St w' F μ ob ∧ Ext w μ w' μ := by
  have he : Ext w μ w' μ :=
    { os := h.os, tape := h.tape, output := h.output, size := h.size, blk := fun b hb _ => h.block b hb, len := Nat.le_refl _
      keep := fun _ _ h => .inl h, dead := fun _ h => h, own := fun _ h => .inl h }
  exact ⟨hs.same he fun b hb => h.block b (by obtain ⟨o, ho⟩ := mem_of hb; exact hs.lt o b ho), he⟩

/-- What a plain value is in the kit's words. -/
def valT : T → Option Value
  | .int k n => some (.int k n.den)
  | .bool b => some (.bool b.den)
  | .str s => some (.string s.den)
  | .lit v => match plain v with | true => some v | false => none
  | _ => none
mutual
def valA : AV → Option Value
  | .c t => valT t
  | .tup vs => match valL vs with | some l => some (.tuple l.toArray) | none => none
  | _ => none
def valL : List AV → Option (List Value)
  | [] => some []
  | x :: xs => match valA x with | some v => (match valL xs with | some l => some (v :: l) | none => none) | none => none
end
omit [Gl] in
theorem valT_sound {w : World} {O : Nat → Prop} {t : T} {v : Value} (h : valT t = some v) : VT w O t v := by
  cases t <;> simp only [valT] at h <;> try cases h
  · exact .int
  · exact .bool
  · exact .str
  · rename_i u
    split at h
    · rename_i hp; cases h; exact .lit hp
    · cases h
omit [Gl] in
theorem valT_back {w : World} {O : Nat → Prop} {t : T} {v u : Value} (h : valT t = some v) (hv : VT w O t u) : u = v := by
  cases hv <;> simp only [valT] at h
  · split at h
    · cases h; rfl
    · cases h
  all_goals (cases h; try rfl)
omit [Gl] in
mutual
theorem valA_sound {w : World} {F : Nat → Prop} {μ : Mu} : ∀ {x : AV} {v : Value}, valA x = some v → VR w F μ x v
  | .c t, v, h => .c (valT_sound h)
  | .tup vs, v, h => by
    simp only [valA] at h
    split at h
    · rename_i l hl
      cases h
      obtain ⟨h1, h2⟩ := valL_sound (w := w) (F := F) (μ := μ) hl
      exact .tup (by simp [h1]) (fun i x v hx hv => h2 i x v hx (by simpa using hv))
    · cases h
  | .ref _ _, v, h | .eref _ _ _ _, v, h | .sl _ _ _ _ _, v, h | .mp _, v, h | .fn _ _ _, v, h | .ifc _ _, v, h | .agg _, v, h | .junk, v, h => by simp [valA] at h
theorem valL_sound {w : World} {F : Nat → Prop} {μ : Mu} : ∀ {xs : List AV} {l : List Value}, valL xs = some l → l.length = xs.length ∧ ∀ (i : Nat) x v, xs[i]? = some x → l[i]? = some v → VR w F μ x v
  | [], l, h => by simp [valL] at h; subst h; exact ⟨rfl, fun i x v hx => by simp at hx⟩
  | x :: xs, l, h => by
    simp only [valL] at h
    split at h
    · rename_i v hv
      split at h
      · rename_i l' hl
        cases h
        obtain ⟨h1, h2⟩ := valL_sound (w := w) (F := F) (μ := μ) hl
        refine ⟨by simp [h1], fun i y u hy hu => ?_⟩
        cases i with
        | zero => simp at hy hu; subst hy; subst hu; exact valA_sound hv
        | succ i => exact h2 i y u (by simpa using hy) (by simpa using hu)
      · cases h
    · cases h
end
/-- The arguments of a call, plain ones. -/
def argsL : List AV → Option (List Value)
  | [] => some []
  | .c t :: xs => match valT t with | some v => (match argsL xs with | some l => some (v :: l) | none => none) | none => none
  | _ :: _ => none
omit [Gl] in
theorem argsL_back {w : World} {F : Nat → Prop} {μ : Mu} : ∀ {xs : List AV} {l vs : List Value}, argsL xs = some l → VRs w F μ xs vs → vs = l
  | [], l, vs, h, hv => by
    simp [argsL] at h; subst h
    have := hv.1
    simpa using this
  | x :: xs, l, vs, h, hv => by
    cases x <;> simp only [argsL] at h <;> try cases h
    rename_i t
    split at h
    · rename_i v hv1
      split at h
      · rename_i l' hl
        cases h
        cases vs with
        | nil => have := hv.1; simp at this
        | cons u us =>
          have h0 := hv.2 0 (.c t) u rfl rfl
          have hr : VRs w F μ xs us := ⟨by have := hv.1; simpa using this, fun i y z hy hz => hv.2 (i + 1) y z (by simpa using hy) (by simpa using hz)⟩
          rw [argsL_back hl hr]
          cases h0 with
          | c h0 => rw [valT_back hv1 h0]
      · cases h
    · cases h

section
variable {P : Program} {δ : Nat → Option TD} {H : Type} {enc : TypeId × Value → H}

/-- **A contract of the kit's**, with whatever value it hands back. -/
theorem ACall.kit {f : FuncId} {fn : Func} {c : Code} (hf : P.funcs[f]? = some fn) (hb : fn.body = some c) (hname : (fn.name == "runtime.NumGoroutine") = false) {args : List AV} {vs : List Value} (ha : argsL args = some vs) {ob : List AO} {K : AV → List AO → Prop}
    (h : ∀ w, Gl.ok w → Calls P f vs.toArray w fun e w' => ∃ v y, e = .returned v ∧ Below w.heap.size w w' ∧ (∀ F μ, VR w' F μ y v) ∧ K y ob) : ACall P f args ob K := by
  refine ⟨fun w F μ cargs hv hs => ?_⟩
  have hcf : (callFunc f cargs).run P w = .ok (.enter f cargs) w := by
    have hn : ¬ fn.name = "runtime.NumGoroutine" := by simpa using hname
    simp [callFunc, hf, hn, hb]
  have hvs : cargs = vs.toArray := by
    have := argsL_back ha hv
    rw [← this]
  unfold CallsX
  rw [hcf]
  refine ⟨rfl, rfl, rfl, ?_⟩
  rw [hvs]
  refine (h w hs.gl.ok).mono fun e w' ⟨v, y, h1, h2, h3, h4⟩ => ?_
  obtain ⟨g1, g2⟩ := hs.below h2
  exact ⟨v, y, ob, μ, h1, h3 F μ, g1, g2, h4⟩

/-- A contract of the kit's that hands back a plain value. -/
theorem ACall.kitV {f : FuncId} {fn : Func} {c : Code} (hf : P.funcs[f]? = some fn) (hb : fn.body = some c) (hname : (fn.name == "runtime.NumGoroutine") = false) {args : List AV} {vs : List Value} (ha : argsL args = some vs) {ob : List AO} {K : AV → List AO → Prop} {y : AV} {v : Value} (hy : valA y = some v)
    (h : ∀ w, Gl.ok w → Calls P f vs.toArray w fun e w' => e = .returned v ∧ Below w.heap.size w w') (hk : K y ob) : ACall P f args ob K :=
  .kit hf hb hname ha fun w hw => (h w hw).mono fun _ _ ⟨h1, h2⟩ => ⟨v, y, h1, h2, fun _ _ => valA_sound hy, hk⟩

/-- A function without a Go body. -/
theorem ACall.extern {f : FuncId} {args : List AV} {vs : List Value} (ha : argsL args = some vs) {ob : List AO} {K : AV → List AO → Prop} {y : AV} {v : Value} (hy : valA y = some v)
    (h : ∀ w, (callFunc f vs.toArray).run P w = .ok (.value v) w) (hk : K y ob) : ACall P f args ob K := by
  refine ⟨fun w F μ cargs hv hs => ?_⟩
  have hvs : cargs = vs.toArray := by
    have := argsL_back ha hv
    rw [← this]
  unfold CallsX
  rw [hvs, h w]
  exact ⟨v, y, ob, μ, rfl, valA_sound hy, hs, Ext.refl _ _, hk⟩

theorem law_lift_laid {C : Checked} {os : Os} {f : FuncId} {fn : Func} {c : Code} {s : ChangeSpec} {conds : List PathCond} {laidV : List (String × DataW Unit)} {tb : TypeId} {ts : List Nat} (hty : TyOk C.prog δ) (hk : kidsOk δ ts = true)
    (hown : ownKnob C.prog.godebug = none) (started : os.Started) (noInit : C.prog.inits.idxOf? f = none) (hfn : C.prog.funcs[f]? = some fn) (hb : fn.body = some c) (hname : (fn.name == "runtime.NumGoroutine") = false)
    (witness : ∃ (w : World) (tape : Tape) (i : Input), w.os = os ∧ (w.forCall tape i).Shaped C.prog ∧ i.vars = [] ∧ Input.okWide C.prog (w.forCall tape i) .any w.heap.size f i ∧
      ((s.pre enc C.prog fn conds false (w.forCall tape i).memory i.args ∧ laidMetH C.prog laidV (w.forCall tape i).memory) ∧ sizedMet enc C.prog fn (OpenSpec.ofChange s) false (w.forCall tape i).memory i.args) ∧ ({} : Assume).holds C.prog (lone (Frame.enter C.prog f i.args .normal) [] (w.forCall tape i)))
    (hvars : s.vars = []) (hres : fn.resultTypes = #[tb]) (htb : C.prog.underlying tb = some .bool) (laid : laidOutB C.prog = true) (hpar : fn.params.toList.all (fun t => ts.contains t) = true)
    (hread : fn.params.toList.all (fun t => C.prog.readableRec t && decide (t < C.prog.types.size)) = true) (hspec : ∀ ds : List (DataW H), ds.length = fn.params.toList.length → s.fn H ds = { results := [.lit (.bool true)], args := ds })
    (walk : Law C.prog δ f fn.params.toList) (hgl : ∀ W : World, laidMetH C.prog laidV W → W.ShapedOpen C.prog → Gls W (fun _ => False)) :
    ReturnsInHanded {} C os f .any (fun w args => (s.pre enc C.prog fn conds false w args ∧ laidMetH C.prog laidV w) ∧ sizedMet enc C.prog fn (OpenSpec.ofChange s) false w args) (s.post enc C.prog fn false true false false) := by
  refine returnsInHanded_of_calls hown started noInit witness ?_
  intro w tape i _ hsh _ hok hpre hholds
  obtain ⟨_, _, _, fn', hfn', _, _, _, _, hval⟩ := hok
  obtain rfl : fn' = fn := Option.some.inj (hfn'.symm.trans hfn)
  obtain ⟨⟨⟨ds, gs, before, hw, hc⟩, hlaid⟩, hz⟩ := hpre
  have hW' := DataW.Whole.of_heap (w' := w.forCall tape i) (by rfl) hw
  have hsz := hz.weights hw
  have hW := hW'
  obtain ⟨p, q, hA, hV, rfl, hfz, hnd⟩ := hW
  rw [hvars] at hV
  obtain ⟨rfl, rfl⟩ := trodVars_none hV
  obtain ⟨hl, xs, hx1, hx2⟩ := args_of hty hk fn'.params.toList i.args.toList ds p (fun t ht => by
    have := List.all_eq_true.1 hpar t ht; simpa using this) (fun j t v h1 h2 => hval j t v (by simpa using h1) (by simpa using h2)) hA (fun m hm => by
    have := List.all_eq_true.1 hsz m (by simpa [ChangeSpec.plain, DataSpec.varTypes, OpenSpec.bare, OpenSpec.ofChange, hvars] using hm)
    simpa using this)
  refine (law_calls hfn hb hname (walk xs hx1) hx2 (hgl _ (laidMetH.of_heap (w' := w.forCall tape i) (by rfl) hlaid) hsh)).mono fun e W' ⟨he, hbel⟩ => ?_
  subst he
  have hsp := hspec ds hl
  have hr : DataW.TrodAll enc C.prog W' (w.forCall tape i).heap.size (fun _ => false) false fn'.resultTypes.toList ((Value.bool true).resultList fn'.resultTypes.size) (s.fn H (ds ++ [])).results [] := by
    rw [List.append_nil, hsp, hres]
    exact trodAll_mk1 (shut_bool htb _)
  have ha : DataW.TrodAll enc C.prog W' 0 (fun b => decide (b < (w.forCall tape i).heap.size)) true fn'.params.toList i.args.toList (s.fn H (ds ++ [])).args p := by
    rw [List.append_nil, hsp]
    exact args_back laid hbel _ _ _ _ hread hA
  refine ChangeSpec.post_blind ?_
  refine ⟨ds, [], _, [], p, [], hW', hr, ha, ?_, hbel.frame _, fun h => by cases h⟩
  rw [hvars, List.append_nil, hsp]
  rfl
end
end Go.Abs
