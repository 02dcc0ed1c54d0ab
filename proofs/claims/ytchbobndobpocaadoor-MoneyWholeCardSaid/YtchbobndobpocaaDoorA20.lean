/- The abstract machine, part 20: what a quiet operation looks at. -/
import Derived.Test.YtchbobndobpocaaDoorA19
namespace Go.Abs
variable [Gl]

/-- The objects that a value names, outermost. -/
def shal : AV → List Nat
  | .ref o _ => [o]
  | .eref o _ _ _ => [o]
  | .mp o => [o]
  | _ => []

/-- The objects that a quiet operation looks at. -/
def touchQ (o : Op) (env : List AV) : List Nat :=
  match o with
  | .load _ x | .nilCheck x | .fieldAddr _ x _ => shal (opnd env x)
  | .indexAddr _ x _ => shal (opnd env x)
  | .binOp _ _ x y _ => appL (shal (opnd env x)) (shal (opnd env y))
  | .lookup _ m _ _ => shal (opnd env m)
  | .call c => match c.args.toList with | [x] => shal (opnd env x) | _ => []
  | _ => []

def Agr (ps : List Nat) (ob ob' : List AO) : Prop := ∀ p ∈ ps, nth ob p = nth ob' p

section
variable {P : Program} {δ : Nat → Option TD} {ob ob' : List AO} {J J' : AV → List AO → Prop}

omit [Gl] in
theorem brT_imp {b : Th Bool} {A B A' B' : Unit → Prop} (h1 : A () → A' ()) (h2 : B () → B' ()) (h : brT b A B) : brT b A' B' := by
  unfold brT at *
  split at h
  · exact h1 h
  · exact h2 h
  · exact ⟨fun e => h1 (h.1 e), fun e => h2 (h.2 e)⟩
omit [Gl] in
theorem mustT_imp {b : Th Bool} {A A' : Unit → Prop} (h1 : A () → A' ()) (h : mustT b A) : mustT b A' := by
  unfold mustT at *
  split at h
  · exact h1 h
  · exact h
  · cases h with | mk e a => exact ⟨e, h1 a⟩
omit [Gl] in
theorem nthT_imp {α : Type} {es : Th (List α)} {n : Th Int} {A A' : α → Prop} (h1 : ∀ a, A a → A' a) (h : nthT es n A) : nthT es n A' := by
  unfold nthT at *
  split at h
  · split at h
    · split at h
      · exact h1 _ h
      · exact h
    · exact h
  · cases h with | mk e a b c => exact ⟨e, a, b, h1 _ c⟩

variable (hJ : ∀ x, J x ob → J' x ob')
include hJ

omit [Gl] in
theorem aload_agree {d : TD} {x : AV} (ha : Agr (shal x) ob ob') (h : aload d x ob J) : aload d x ob' J' := by
  unfold aload at *
  split at h
  · rename_i o off
    rw [← ha o (by simp [shal])]
    split at h
    · split at h
      · rename_i e; (try simp only [e]); exact hJ _ h
      · exact h.elim
    · exact h.elim
  · rename_i o k i off
    rw [← ha o (by simp [shal])]
    split at h
    · split at h
      · rename_i hk; (try simp only [hk])
        refine nthT_imp (fun e h => ?_) h
        split at h
        · rename_i e2; (try simp only [e2]); exact hJ _ h
        · exact h.elim
      · exact h.elim
    · exact h.elim
  · split at h
    · rename_i e; (try simp only [e]); exact hJ _ h
    · exact h.elim
  · exact h.elim

omit hJ in
omit [Gl] in
theorem alive_agree {o : Nat} (h : nth ob o = nth ob' o) : alive ob o = alive ob' o := by unfold alive; rw [h]

omit [Gl] in
theorem afieldAddr_agree {s f : Nat} {x : AV} (ha : Agr (shal x) ob ob') (h : afieldAddr δ s f x ob J) : afieldAddr δ s f x ob' J' := by
  unfold afieldAddr at *
  split at h
  · split at h
    · exact h.elim
    · rename_i hz; (try simp only [hz])
      split at h
      · rename_i o a
        rw [← alive_agree (ha o (by simp [shal]))]
        split at h
        · rename_i e; (try simp only [e]); exact hJ _ h
        · exact h.elim
      · exact hJ _ h
      · exact hJ _ h
      · exact h.elim
  · exact h.elim

omit [Gl] in
theorem aindexAddr_agree {t : Nat} {x i : AV} (ha : Agr (shal x) ob ob') (h : aindexAddr δ t x i ob J) : aindexAddr δ t x i ob' J' := by
  unfold aindexAddr at *
  split at h
  · rename_i d k n hd
    try simp only []
    split at h
    · rename_i e hsh
      try simp only []
      split at h
      · rename_i ed hed
        try simp only []
        split at h
        · split at h
          · rename_i e2; (try simp only [e2]); exact mustT_imp (fun h => hJ _ h) h
          · exact h.elim
        · split at h
          · rename_i e2; (try simp only [e2]); exact nthT_imp (fun _ h => hJ _ h) h
          · exact h.elim
        · split at h
          · rename_i e2; (try simp only [e2]); exact nthT_imp (fun _ h => hJ _ h) h
          · exact h.elim
        · exact h.elim
      · exact h.elim
    · rename_i len e hsh
      try simp only []
      split at h
      · rename_i ed hed
        try simp only []
        split at h
        · rename_i o off n'
          try simp only []
          rw [← alive_agree (ha o (by simp [shal]))]
          split at h
          · rename_i e1 e2; (try simp only [e1, e2]); exact hJ _ h
          · exact h.elim
        · exact h.elim
      · exact h.elim
    · exact h.elim
  · exact h.elim

omit [Gl] in
theorem aindex_agree {t : Nat} {x i : AV} (h : aindex δ t x i ob J) : aindex δ t x i ob' J' := by
  unfold aindex at *
  split at h
  · try simp only []
    split at h
    · rename_i hsh
      try simp only []
      split at h
      · exact mustT_imp (fun h => hJ _ h) h
      · exact h.elim
    · rename_i hsh
      try simp only []
      split at h
      · rename_i hed
        try simp only []
        split at h
        · split at h
          · rename_i e2; (try simp only [e2]); exact nthT_imp (fun _ h => hJ _ h) h
          · exact h.elim
        · exact h.elim
      · exact h.elim
    · exact h.elim
  · exact h.elim

omit [Gl] in
theorem alen_agree {t : Nat} {x : AV} (ha : Agr (shal x) ob ob') (h : alen δ t x ob J) : alen δ t x ob' J' := by
  unfold alen at *
  split at h
  · try simp only []
    split at h
    · rename_i hsh
      try simp only []
      split at h
      · exact hJ _ h
      · exact h.elim
    · rename_i hsh
      try simp only []
      split at h
      · exact hJ _ h
      · exact hJ _ h
      · exact hJ _ h
      · exact hJ _ h
      · exact h.elim
    · rename_i hsh
      try simp only []
      exact hJ _ h
    · rename_i hsh
      try simp only []
      split at h
      · exact hJ _ h
      · rename_i o
        try simp only []
        rw [← ha o (by simp [shal])]
        split at h
        · exact hJ _ h
        · exact h.elim
      · exact h.elim
    · exact h.elim
  · exact h.elim

omit [Gl] in
theorem acap_agree {t : Nat} {x : AV} (h : acap δ t x ob J) : acap δ t x ob' J' := by
  unfold acap at *
  split at h
  · try simp only []
    split at h
    · rename_i hsh
      try simp only []
      exact hJ _ h
    · exact h.elim
  · exact h.elim

omit [Gl] in
theorem aeq_agree {t : Nat} {neg yc : Bool} {x y : AV} (ha : Agr (shal x) ob ob') (h : aeq δ t neg yc x y ob J) : aeq δ t neg yc x y ob' J' := by
  unfold aeq at *
  split at h
  · try simp only []
    split at h
    · rename_i hsh
      try simp only []
      split at h
      · rename_i e; (try simp only [e]); exact hJ _ h
      · exact h.elim
    · rename_i hsh
      try simp only []
      split at h
      · rename_i heq
        try simp only [heq]
        split at h
        · rename_i e; (try simp only [e]); exact hJ _ h
        · exact h.elim
      · exact h.elim
    · rename_i hsh
      try simp only []
      split at h
      · try simp only []
        split at h
        · rename_i e; (try simp only [e]); exact hJ _ h
        · rename_i e; (try simp only [e]); exact ⟨fun b => hJ _ (h.all b)⟩
        · exact h.elim
      · exact h.elim
    · rename_i hsh
      try simp only []
      split at h
      · try simp only []
        have hn : nilPtr ob x = nilPtr ob' x := by
          unfold nilPtr
          split
          · rfl
          · rfl
          · rename_i o off; rw [alive_agree (ha o (by simp [shal]))]
          · rfl
          · rfl
        rw [← hn]
        split at h
        · exact hJ _ h
        · exact h.elim
      · exact h.elim
    · rename_i hsh
      try simp only []
      split at h
      · try simp only []
        split at h
        · rename_i e; (try simp only [e]); exact hJ _ h
        · exact h.elim
      · exact h.elim
    · rename_i hsh
      try simp only []
      split at h
      · try simp only []
        split at h
        · rename_i e; (try simp only [e]); exact hJ _ h
        · exact h.elim
      · exact h.elim
    · exact h.elim
  · exact h.elim

omit [Gl] in
theorem abin_agree {op : BinOp} {t : Nat} {yc : Bool} {x y : AV} (ha : Agr (shal x) ob ob') (h : abin δ op t yc x y ob J) : abin δ op t yc x y ob' J' := by
  unfold abin at *
  split at h
  · try simp only []
    split at h
    · exact mustT_imp (fun h => hJ _ h) h
    · exact mustT_imp (fun h => hJ _ h) h
    iterate 6
      · split at h
        · rename_i e; (try simp only [e]); exact hJ _ h
        · exact h.elim
    iterate 2
      · split at h
        · rename_i e; (try simp only [e]); exact mustT_imp (fun h => hJ _ h) h
        · exact h.elim
    · split at h
      · rename_i e; (try simp only [e]); exact hJ _ h
      · exact h.elim
  · try simp only []
    split at h
    iterate 6
      · exact hJ _ h
    · exact mustT_imp (fun h => hJ _ h) h
    · exact h.elim
  · try simp only []
    split at h
    · exact aeq_agree hJ ha h
    · exact aeq_agree hJ ha h
    · exact h.elim

omit hJ in
omit [Gl] in
theorem afind_imp {sh : Sh} {k : AV} {A A' : Option (Nat × AV) → Prop} (h1 : ∀ r, A r → A' r) : ∀ (es : List (AV × AV)) (i : Nat), afind sh k es i A → afind sh k es i A'
  | [], i, h => by
    simp only [afind] at h ⊢
    split at h
    · rename_i e; (try simp only [e]); exact h1 _ h
    · exact h.elim
  | (k', v) :: es, i, h => by
    simp only [afind] at h ⊢
    split at h
    · rename_i e; (try simp only [e]); exact brT_imp (h1 _) (afind_imp h1 es (i + 1)) h
    · exact h.elim

omit [Gl] in
theorem lkK_agree {ok : Bool} {z : AV} : ∀ r, lkK ok z ob J r → lkK ok z ob' J' r
  | some (_, v), h => by cases ok <;> exact hJ _ h
  | none, h => by cases ok <;> exact hJ _ h

omit [Gl] in
theorem alookup_agree {t : Nat} {m k : AV} {ok : Bool} (ha : Agr (shal m) ob ob') (h : alookup δ t m k ok ob J) : alookup δ t m k ok ob' J' := by
  unfold alookup at *
  split at h
  · try simp only []
    split at h
    · rename_i e; (try simp only [e])
      split at h
      · rename_i o
        try simp only []
        rw [← ha o (by simp [shal])]
        split at h
        · exact afind_imp (lkK_agree hJ) _ _ h
        · exact h.elim
      · exact afind_imp (lkK_agree hJ) _ _ h
      · exact h.elim
    · exact h.elim
  · exact h.elim

omit [Gl] in
theorem aslice_agree {t : Nat} {x : AV} {lo hi mx : Option AV} (h : aslice δ t x lo hi mx ob J) : aslice δ t x lo hi mx ob' J' := by
  unfold aslice at *
  split at h
  · try simp only []
    split at h
    · rename_i hsh
      try simp only []
      split at h
      · try simp only []
        split at h
        · rename_i e1 e2; (try simp only [e1, e2]); exact mustT_imp (fun h => hJ _ h) h
        · exact h.elim
      · exact h.elim
    · rename_i hsh
      try simp only []
      split at h
      · rename_i hed
        try simp only []
        split at h
        · split at h
          · rename_i e1 e2 e3 e4 e5; (try simp only [e1, e2, e3, e4, e5]); exact mustT_imp (fun h => hJ _ h) h
          · exact h.elim
        · split at h
          · rename_i e1 e2 e3 e4 e5; (try simp only [e1, e2, e3, e4, e5]); exact mustT_imp (fun h => hJ _ h) h
          · exact h.elim
        · split at h
          · rename_i e1 e2 e3 e4 e5; (try simp only [e1, e2, e3, e4, e5]); exact mustT_imp (fun h => hJ _ h) h
          · exact h.elim
        · exact h.elim
      · exact h.elim
    · exact h.elim
  · exact h.elim

omit [Gl] in
theorem afield_agree {s f : Nat} {x : AV} (h : afield δ s f x ob J) : afield δ s f x ob' J' := by
  unfold afield at *
  split at h
  · split at h
    · split at h
      · rename_i e; (try simp only [e]); exact hJ _ h
      · exact h.elim
    · exact h.elim
  · exact h.elim
omit [Gl] in
theorem abuild_agree {t : Nat} {ps : List (Nat × AV)} (h : abuild δ t ps ob J) : abuild δ t ps ob' J' := by
  unfold abuild at *
  split at h
  · try simp only []
    split at h
    · rename_i hsh
      try simp only []
      split at h
      · rename_i e; (try simp only [e])
        split at h
        · rename_i e; (try simp only [e]); exact hJ _ h
        · exact h.elim
      · exact h.elim
    · exact h.elim
  · exact h.elim
omit [Gl] in
theorem aun_agree {op : UnOp} {x : AV} (h : aun op x ob J) : aun op x ob' J' := by
  unfold aun at *
  split at h
  · exact hJ _ h
  · exact hJ _ h
  · exact hJ _ h
  · exact h.elim
omit [Gl] in
theorem aconv_agree {d : Nat} {x : AV} (h : aconv δ d x ob J) : aconv δ d x ob' J' := by
  unfold aconv at *
  split at h
  · try simp only []
    split at h
    · rename_i e; (try simp only [e]); exact hJ _ h
    · rename_i e; (try simp only [e]); exact hJ _ h
    · exact h.elim
  · exact h.elim
omit [Gl] in
theorem nilChk_agree {x : AV} (ha : Agr (shal x) ob ob') (h : nilChk x ob J) : nilChk x ob' J' := by
  unfold nilChk at *
  split at h
  · rename_i o off
    try simp only []
    rw [← alive_agree (ha o (by simp [shal]))]
    split at h
    · rename_i e; (try simp only [e]); exact hJ _ h
    · exact h.elim
  · exact hJ _ h
  · exact hJ _ h
  · exact hJ _ h
  · exact hJ _ h
  · exact h.elim

/-- **What a quiet operation yields hangs on what it looks at alone.** -/
theorem aop_agree {o : Op} {env : List AV} (hq : quietOp o = true) (ha : Agr (touchQ o env) ob ob') (h : aop P δ o env ob J) : aop P δ o env ob' J' := by
  unfold aop at *
  split at h
  all_goals try (cases hq; done)
  · exact hJ _ h
  · exact hJ _ h
  · split at h
    · rename_i e; (try simp only [e]); exact brT_imp (hJ _) (hJ _) h
    · exact h.elim
  · split at h
    · rename_i e; (try simp only [e]); exact abuild_agree hJ h
    · exact h.elim
  · split at h
    · rename_i e; (try simp only [e]); exact aload_agree hJ ha h
    · exact h.elim
  · exact nilChk_agree hJ ha h
  · exact abin_agree hJ (fun p hp => ha p (by simp only [touchQ, appL_eq]; exact List.mem_append_left _ hp)) h
  · exact aun_agree hJ h
  · split at h
    · rename_i e; (try simp only [e]); exact aconv_agree hJ h
    · exact h.elim
  · split at h
    · try simp only []
      split at h
      · exact h.elim
      · rename_i e; (try simp only [e]); exact hJ _ h
    · exact h.elim
  · exact hJ _ h
  · exact aslice_agree hJ h
  · exact afieldAddr_agree hJ ha h
  · exact afield_agree hJ h
  · exact aindexAddr_agree hJ ha h
  · exact aindex_agree hJ h
  · split at h
    · rename_i e; (try simp only [e]); exact alookup_agree hJ ha h
    · exact h.elim
  · rename_i t i
    revert h
    cases opnd env t <;> intro h
    case tup vs =>
      dsimp only at h ⊢
      cases hn : nth vs i with
      | some v => rw [hn] at h; exact hJ _ h
      | none => rw [hn] at h; exact h.elim
    all_goals exact (show False from h).elim
  · rename_i c
    obtain ⟨callee, args, ats⟩ := c
    simp only [quietOp] at hq
    simp only at h ⊢
    split at hq
    · simp only [abuiltin] at h ⊢
      split at h
      · rename_i t x hat hargs
        (try simp only [hat, hargs])
        refine alen_agree hJ (fun p hp => ha p ?_) h
        simp only [touchQ]
        have : ∃ y, args.toList = [y] ∧ opnd env y = x := by
          simp only [opnds, mapL_eq] at hargs
          cases hl : args.toList with
          | nil => rw [hl] at hargs; cases hargs
          | cons y l =>
            rw [hl] at hargs
            cases l with
            | nil => simp at hargs; exact ⟨y, rfl, hargs⟩
            | cons z l => simp at hargs
        obtain ⟨y, hy, rfl⟩ := this
        rw [hy]; exact hp
      · exact h.elim
    · simp only [abuiltin] at h ⊢
      split at h
      · rename_i t x hat hargs
        (try simp only [hat, hargs])
        exact acap_agree hJ h
      · exact h.elim
    · cases hq
  · exact h.elim
end
end Go.Abs
