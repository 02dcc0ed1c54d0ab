/- The abstract machine, part 22: frames of which little is said. -/
import Derived.Test.YtchbobndobpocaaDoorA21
namespace Go.Abs
variable [Gl]

def lookA : List (Nat × AV) → Nat → AV
  | [], _ => .junk
  | (j, x) :: l, i => match j == i with | true => x | false => lookA l i
def spF : Nat → Nat → List (Nat × AV) → List AV
  | 0, _, _ => []
  | n + 1, i, l => lookA l i :: spF n (i + 1) l
/-- A frame of n slots, of which these are said. -/
def sp (n : Nat) (l : List (Nat × AV)) : List AV := spF n 0 l
omit [Gl] in
theorem spF_len : ∀ (n i : Nat) (l : List (Nat × AV)), (spF n i l).length = n
  | 0, _, _ => rfl
  | n + 1, i, l => by simp [spF, spF_len n (i + 1) l]
omit [Gl] in
theorem spF_get : ∀ (n i : Nat) (l : List (Nat × AV)) (j : Nat), j < n → (spF n i l)[j]? = some (lookA l (i + j))
  | 0, _, _, _, h => by omega
  | n + 1, i, l, 0, _ => by simp [spF]
  | n + 1, i, l, j + 1, h => by
    simp only [spF, List.getElem?_cons_succ]
    rw [spF_get n (i + 1) l j (by omega), show i + 1 + j = i + (j + 1) by omega]

/-- What is said of a frame, shown. -/
inductive SPs (base : Nat) (π : List Nat) (o : List AO) (e : List AV) : List (Nat × AV) → Prop
  | nil : SPs base π o e []
  | cons {i : Nat} {x y : AV} {l : List (Nat × AV)} : nth e i = some y → RV base π o y x → SPs base π o e l → SPs base π o e ((i, x) :: l)

omit [Gl] in
theorem RVs_of {base : Nat} {π : List Nat} {o : List AO} : ∀ (e e' : List AV), e.length = e'.length → (∀ (j : Nat) x y, e[j]? = some x → e'[j]? = some y → RV base π o x y) → RVs base π o e e'
  | [], [], _, _ => .nil
  | [], _ :: _, h, _ => by simp at h
  | _ :: _, [], h, _ => by simp at h
  | x :: e, y :: e', h, hr => .cons (hr 0 x y rfl rfl) (RVs_of e e' (by simpa using h) fun j a b h1 h2 => hr (j + 1) a b (by simpa using h1) (by simpa using h2))

omit [Gl] in
theorem SPs.rvs {base : Nat} {π : List Nat} {o : List AO} {e : List AV} {l : List (Nat × AV)} (h : SPs base π o e l) {n : Nat} (hn : lenL e = n) : RVs base π o e (sp n l) := by
  refine RVs_of e (sp n l) (by rw [sp, spF_len, ← hn, lenL_eq]) fun j x y hx hy => ?_
  have hj : j < n := by rw [← hn, lenL_eq]; exact (List.getElem?_eq_some_iff.1 hx).1
  rw [sp, spF_get n 0 l j hj, Nat.zero_add] at hy
  cases hy
  clear hj hn
  induction h with
  | nil => exact .junk
  | cons h1 h2 _ ih =>
    simp only [lookA]
    split
    · rename_i hij
      have hij' := beq_iff_eq.1 hij
      subst hij'
      rw [nth_eq, hx] at h1
      cases h1; exact h2
    · exact ih

theorem Ren.sp {m : Nat} {e : List AV} {o o' : List AO} {n : Nat} {l : List (Nat × AV)} (π : List Nat) (hk : keeps (lenL o) m 0 π = true) (hd : distinct π = true) (hn : lenL e = n) (he : SPs 0 π o e l) (ho : ROs 0 π o π o') : Ren m e o (Abs.sp n l) o' :=
  Ren.of π hk hd (he.rvs hn) ho

/-- What a piece of code ends with may be said anew, and once for all ways. -/
theorem ACode.cut {P : Program} {m : Nat} {c : Code} {env : List AV} {ob : List AO} {Q : AE → List AV → List AO → Prop} (R : AE → List AV → List AO → Prop) (h : ACode P m c env ob (fun x e o => ∃ e' o', Ren m e o e' o' ∧ R x e' o')) (hk : ∀ x e o, R x e o → Q x e o) : ACode P m c env ob Q := by
  refine ⟨fun w F μ a hm hf hs => Code.wp_mono (fun x a' w' hx => ?_) (h.run w F μ a hm hf hs)⟩
  cases x with
  | normal =>
    obtain ⟨e, o, μ', ⟨E, O, g1, g1'⟩, g2, g3, g4, g5⟩ := hx
    obtain ⟨μ'', r1, r2, r3⟩ := g1.run w' F μ' a'.tmps g4.len g2 g3
    exact ⟨E, O, μ'', hk _ _ _ g1', r1, r2, g4.trans r3, g5⟩
  | exit i =>
    obtain ⟨e, o, μ', ⟨E, O, g1, g1'⟩, g2, g3, g4, g5⟩ := hx
    obtain ⟨μ'', r1, r2, r3⟩ := g1.run w' F μ' a'.tmps g4.len g2 g3
    exact ⟨E, O, μ'', hk _ _ _ g1', r1, r2, g4.trans r3, g5⟩
  | ret =>
    obtain ⟨e, o, μ', ⟨E, O, g1, g1'⟩, g2, g3, g4, g5⟩ := hx
    obtain ⟨μ'', r1, r2, r3⟩ := g1.run w' F μ' a'.tmps g4.len g2 g3
    exact ⟨E, O, μ'', hk _ _ _ g1', r1, r2, g4.trans r3, g5⟩
  | _ => exact hx
end Go.Abs
