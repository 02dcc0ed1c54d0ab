/- The abstract machine, part 9: whatever it answers, the program does. -/
import Derived.Test.YtchbobndobpocaaDoorA8b
import Derived.Scope
namespace Go.Abs
variable [Gl]
section
variable {P : Program} {δ : Nat → Option TD} {w : World} {F : Nat → Prop} {μ : Mu} {ob : List AO} {K : AV → List AO → Prop}
variable {o : Oper} {a : Act} {env : List AV} {next : Act → World → Prop} {Q : Exit → Act → World → Prop}

omit [Gl] in
theorem VR.unit : VR w F μ AUnit undef := .tup rfl (fun i x v h => by simp at h)

omit [Gl] in
theorem hasZ_ne {d : TD} (h : hasZ d = true) : d.zero ≠ [] := by
  unfold hasZ at h
  split at h
  · cases h
  · assumption

abbrev Hands (w : World) (F : Nat → Prop) (μ : Mu) (K : AV → List AO → Prop) (o : Oper) (a : Act) (next : Act → World → Prop) : Prop :=
  ∀ v x w' μ' ob', VR w' F μ' x v → St w' F μ' ob' → Ext w μ w' μ' → K x ob' → next (a.put o.dst v) w'

theorem wp_of_done {s : Sem Value} (he : execOp a.eval o = (do pure (Next.value (← s)))) (hd : Done P s w F μ K) (hn : Hands w F μ K o a next) : o.wp P a w next Q := by
  obtain ⟨v, w', x, μ', ob', hr, h1, h2, h3, h4⟩ := hd
  unfold Oper.wp
  rw [he]
  simp only [Sem.run_bind, hr, Result.andThen_ok, Sem.run_pure, Oper.upon_value]
  exact hn v x w' μ' ob' h1 h2 h3 h4
theorem wp_of_doneU {s : Sem Unit} (he : execOp a.eval o = (do s; pure .skip)) (hd : DoneU P s w F μ K) (hn : Hands w F μ K o a next) : o.wp P a w next Q := by
  obtain ⟨w', μ', ob', hr, h2, h3, h4⟩ := hd
  unfold Oper.wp
  rw [he]
  simp only [Sem.run_bind, hr, Result.andThen_ok, Sem.run_pure, Oper.upon_skip]
  exact hn undef AUnit w' μ' ob' .unit h2 h3 h4
theorem wp_of_value {v : Value} {x : AV} (he : execOp a.eval o = pure (Next.value v)) (hs : St w F μ ob) (hv : VR w F μ x v) (hk : K x ob) (hn : Hands w F μ K o a next) : o.wp P a w next Q := by
  unfold Oper.wp
  rw [he]
  simp only [Sem.run_pure, Oper.upon_value]
  exact hn v x w μ ob hv hs (.refl w μ) hk

theorem nilChk_sound (hs : St w F μ ob) {x : AV} {v : Value} (hv : VR w F μ x v) (h : nilChk x ob K) : K x ob ∧ ((∃ b, v = .pointer (some b)) ∨ (∃ f c d, v = .func (.func f) c d) ∨ ∃ t u, v = .iface t u) := by
  unfold nilChk at h
  split at h
  · split at h
    · rename_i hal; obtain ⟨b, hb⟩ := hs.alive hal; exact ⟨h, .inl ⟨_, hv.refE hb⟩⟩
    · exact h.elim
  · obtain ⟨a, ha⟩ := hv.erefV; exact ⟨h, .inl ⟨_, ha⟩⟩
  · cases hv with | c hv => obtain ⟨b, off, r1⟩ := vptr_form hv; exact ⟨h, .inl ⟨_, r1⟩⟩
  · cases hv; exact ⟨h, .inr (.inl ⟨_, _, _, rfl⟩)⟩
  · cases hv; exact ⟨h, .inr (.inr ⟨_, _, rfl⟩)⟩
  · exact h.elim

omit [Gl] in
theorem opnds_sound (hf : FR w F μ env a.tmps) (xs : List Operand) : VRs w F μ (opnds env xs) (xs.map a.eval) := by
  refine ⟨by simp [opnds, mapL_eq], fun i x v hx hv => ?_⟩
  simp only [opnds, mapL_eq, List.getElem?_map] at hx hv
  cases ho : xs[i]? with
  | none => rw [ho] at hx; cases hx
  | some y =>
    rw [ho] at hx hv
    simp at hx hv
    subst hx; subst hv
    exact opnd_sound hf y

omit [Gl] in
theorem VRs.append {xs ys : List AV} {us vs : List Value} (h1 : VRs w F μ xs us) (h2 : VRs w F μ ys vs) : VRs w F μ (xs ++ ys) (us ++ vs) := by
  refine ⟨by simp [h1.1, h2.1], fun i x v hx hv => ?_⟩
  rcases Nat.lt_or_ge i xs.length with hlt | hge
  · rw [List.getElem?_append_left hlt] at hx
    rw [List.getElem?_append_left (by rw [h1.1]; exact hlt)] at hv
    exact h1.2 i x v hx hv
  · rw [List.getElem?_append_right hge] at hx
    rw [List.getElem?_append_right (by rw [h1.1]; exact hge), h1.1] at hv
    exact h2.2 _ x v hx hv

theorem ACall.wp {f : FuncId} {args : List AV} {cargs : Array Value} (h : ACall P f args ob K) (hv : VRs w F μ args cargs.toList) (hs : St w F μ ob) (hn : Hands w F μ K o a next)
    (he : (execOp a.eval o).run P w = (callFunc f cargs).run P w) : o.wp P a w next Q := by
  have hx := h.run w F μ cargs hv hs
  unfold Oper.wp
  rw [he]
  unfold CallsX at hx
  split at hx
  · rename_i g as w' hr
    obtain ⟨rfl, rfl, rfl, hc⟩ := hx
    rw [hr, Oper.upon_enter]
    refine hc.mono fun e w' ⟨v, x, ob', μ', he, h1, h2, h3, h4⟩ => ?_
    subst he
    exact hn v x w' μ' ob' h1 h2 h3 h4
  · rename_i v w' hr
    obtain ⟨v', x, ob', μ', he, h1, h2, h3, h4⟩ := hx
    cases he
    rw [hr, Oper.upon_value]
    exact hn v x w' μ' ob' h1 h2 h3 h4
  · exact hx.elim

theorem acallV_sound (hs : St w F μ ob) {f : AV} {fv : Value} (hfv : VR w F μ f fv) {args : List AV} {cargs : Array Value} (hv : VRs w F μ args cargs.toList) (h : acallV P f args ob K) (hn : Hands w F μ K o a next)
    (he : execOp a.eval o = (do let d ← Deferred.ofValue fv cargs; invoke d.target d.args)) : o.wp P a w next Q := by
  unfold acallV at h
  split at h
  · rename_i g first captured
    cases hfv with
    | fn h1 h2 h3 h4 =>
      rename_i vf vc
      refine ACall.wp (cargs := vf ++ cargs ++ vc) h ?_ hs hn ?_
      · rw [appL_eq, appL_eq]
        have e : (vf ++ cargs ++ vc).toList = (vf.toList ++ cargs.toList) ++ vc.toList := by simp
        rw [e]
        exact ((VRs.append ⟨by simp [h1], fun i x v hx hv => h3 i x v hx (by simpa using hv)⟩ hv).append ⟨by simp [h2], fun i x v hx hv => h4 i x v hx (by simpa using hv)⟩)
      · rw [he]; simp [Deferred.ofValue, invoke]
  · exact h.elim

theorem abuiltin_sound (hty : TyOk P δ) (hs : St w F μ ob) {b : Builtin} {ats : List TypeId} {args : List AV} {cargs : Array Value} (hv : VRs w F μ args cargs.toList) (h : abuiltin P δ b ats args ob K) (hn : Hands w F μ K o a next)
    {ty : TypeId} {cs : Array Bool} (he : execOp a.eval o = builtin b ats.toArray ty cs cargs) : o.wp P a w next Q := by
  unfold abuiltin at h
  split at h
  · split at h
    · rename_i t x
      obtain ⟨v, hv1⟩ := List.length_eq_one_iff.1 hv.1
      obtain rfl : cargs = #[v] := Array.ext' hv1
      have hx := hv.2 0 x v rfl rfl
      exact wp_of_done (s := Builtin.len_ #[t] ty #[v]) (by rw [he]; rfl) ((alen_sound hty hs hx h ty).done hs) hn
    · exact h.elim
  · split at h
    · rename_i t x
      obtain ⟨v, hv1⟩ := List.length_eq_one_iff.1 hv.1
      obtain rfl : cargs = #[v] := Array.ext' hv1
      have hx := hv.2 0 x v rfl rfl
      exact wp_of_done (s := Builtin.cap_ #[t] ty #[v]) (by rw [he]; rfl) ((acap_sound hty hx h ty).done hs) hn
    · exact h.elim
  · split at h
    · rename_i t xt s x
      have hl : cargs.size = 2 := by simpa using hv.1
      obtain ⟨v1, v2, rfl⟩ : ∃ v1 v2, cargs = #[v1, v2] := ⟨cargs[0], cargs[1], by apply Array.ext <;> simp [hl]; intro i h1; rcases i with _ | _ | i <;> simp_all; omega⟩
      have h1 := hv.2 0 s v1 rfl rfl
      have h2 := hv.2 1 x v2 rfl rfl
      obtain ⟨v, y, ob', μ', w', r1, r2, r3, r4, r5⟩ := h.run ty w F μ v1 v2 h1 h2 hs
      exact wp_of_done (s := Builtin.copy_ #[t, xt] ty #[v1, v2]) (by rw [he]; rfl) ⟨v, w', y, μ', ob', r1, r2, r3, r4, r5⟩ hn
    · exact h.elim
  · split at h
    · rename_i t x
      obtain ⟨v, hv1⟩ := List.length_eq_one_iff.1 hv.1
      obtain rfl : cargs = #[v] := Array.ext' hv1
      have hx := hv.2 0 x v rfl rfl
      exact wp_of_done (s := Builtin.clear_ #[t] ty #[v]) (by rw [he]; rfl) (aclear_sound hty hs hx h ty) hn
    · exact h.elim
  · split at h
    · rename_i t xt s x
      have hl : cargs.size = 2 := by simpa using hv.1
      obtain ⟨v1, v2, rfl⟩ : ∃ v1 v2, cargs = #[v1, v2] := ⟨cargs[0], cargs[1], by apply Array.ext <;> simp [hl]; intro i h1; rcases i with _ | _ | i <;> simp_all; omega⟩
      have h1 := hv.2 0 s v1 rfl rfl
      have h2 := hv.2 1 x v2 rfl rfl
      obtain ⟨v, y, ob', μ', w', r1, r2, r3, r4, r5⟩ := h.run ty w F μ v1 v2 h1 h2 hs
      exact wp_of_done (s := Builtin.append_ #[t, xt] ty #[v1, v2]) (by rw [he]; rfl) ⟨v, w', y, μ', ob', r1, r2, r3, r4, r5⟩ hn
    · exact h.elim
  · exact h.elim

/-- The operations that turn nothing. -/
def quietOp : Op → Bool
  | .move _ | .assign _ | .pick _ _ _ | .build _ _ | .load _ _ | .nilCheck _ | .binOp _ _ _ _ _ | .unOp _ _ _ | .convert _ _ _ | .makeInterface _ _ | .makeFunc _ _ _ | .fieldAddr _ _ _ | .field _ _ _
  | .indexAddr _ _ _ | .index _ _ _ | .lookup _ _ _ _ | .extract _ _ | .slice _ _ _ _ _ => true
  | .call c => match c.callee with | .builtin .len => true | .builtin .cap => true | _ => false
  | _ => false

def OpQ (P : Program) (a : Act) (o : Oper) (w : World) (F : Nat → Prop) (μ : Mu) (ob : List AO) (K : AV → List AO → Prop) : Prop :=
  ∃ v x, (∀ w', Sup w w' → (execOp a.eval o).run P w' = .ok (.value v) w') ∧ VR w F μ x v ∧ K x ob

omit [Gl] in
theorem OpQ.of {s : Sem Value} (he : execOp a.eval o = (do pure (Next.value (← s)))) (h : DoneQ P s w F μ ob K) : OpQ P a o w F μ ob K := by
  obtain ⟨v, x, h1, h2, h3⟩ := h
  exact ⟨v, x, fun w' hw => by rw [he]; simp only [Sem.run_bind, h1 w' hw, Result.andThen_ok, Sem.run_pure], h2, h3⟩
omit [Gl] in
theorem OpQ.val {v : Value} {x : AV} (he : execOp a.eval o = pure (Next.value v)) (hv : VR w F μ x v) (hk : K x ob) : OpQ P a o w F μ ob K :=
  ⟨v, x, fun w' _ => by rw [he]; rfl, hv, hk⟩

set_option maxHeartbeats 4000000 in
theorem aopQ_sound (hty : TyOk P δ) (hf : FR w F μ env a.tmps) (hs : St w F μ ob) (hq : quietOp o.op = true) (h : aop P δ o.op env ob K) : OpQ P a o w F μ ob K := by
  obtain ⟨dst, op, ty, pos, after, guard⟩ := o
  simp only at h hq
  unfold aop at h
  split at h
  all_goals try (cases hq; done)
  · exact .val rfl (opnd_sound hf _) h
  · exact .val rfl (opnd_sound hf _) h
  · rename_i c x y
    split at h
    · rename_i b hb
      have hc := opnd_sound hf c
      rw [hb] at hc
      have hce := hc.bE
      obtain ⟨h1, h2⟩ := brT_iff h
      cases hbd : b.den with
      | true => exact .of (s := pure (a.eval x)) (by simp only [execOp, hce, asBool, hbd]; rfl) (.q (fun _ _ => rfl) (opnd_sound hf x) (h1 hbd))
      | false => exact .of (s := pure (a.eval y)) (by simp only [execOp, hce, asBool, hbd]; rfl) (.q (fun _ _ => rfl) (opnd_sound hf y) (h2 hbd))
    · exact h.elim
  · rename_i t ps
    split at h
    · rename_i hz
      refine .of (s := Instr.build t (ps.map fun (i, x) => (i, a.eval x))) rfl (abuild_sound hty hs (ps := parts env ps.toList) ?_ h (fun d hd => ?_))
      · have := parts_sound hf ps.toList
        simpa using this
      · unfold zOk at hz; rw [hd] at hz; exact hasZ_ne hz
    · exact h.elim
  · rename_i t x
    split at h
    · rename_i d hd; exact .of rfl (aload_sound hty hd hs (opnd_sound hf x) h)
    · exact h.elim
  · rename_i x
    obtain ⟨hk, hv⟩ := nilChk_sound hs (opnd_sound hf x) h
    have hx := opnd_sound hf x
    rcases hv with ⟨b, hb⟩ | ⟨f, c, d, hb⟩ | ⟨t, u, hb⟩ <;> exact .val (v := a.eval x) (by simp only [execOp, hb]) hx hk
  · rename_i op t x y yt
    exact .of rfl (abin_sound hty hs (opnd_sound hf x) (opnd_sound hf y) h)
  · rename_i op t x
    exact .of rfl (aun_sound hs (opnd_sound hf x) h)
  · rename_i src dst x
    split at h
    · rename_i d hd
      obtain ⟨u, hu, _⟩ := sh_und hty hd
      exact .of rfl (aconv_sound hty hs ⟨u, hu⟩ (opnd_sound hf x) h)
    · exact h.elim
  · rename_i t x
    split at h
    · rename_i d hd
      obtain ⟨u, hu, hsh⟩ := sh_und hty hd
      split at h
      · exact h.elim
      · rename_i hni
        refine .of (s := Instr.makeInterface t (a.eval x)) rfl (.q (v := .iface t (a.eval x)) (fun _ _ => ?_) (.ifc (opnd_sound hf x)) h)
        cases u <;> first | (simp [Instr.makeInterface, run_underlying hu]; done) | (exact absurd hsh.symm hni)
    · exact h.elim
  · rename_i fn first captured
    have h1 := opnds_sound hf first.toList
    have h2 := opnds_sound hf captured.toList
    refine .of (s := Instr.makeFunc fn (first.map a.eval) (captured.map a.eval)) rfl (.q (v := .func fn (first.map a.eval) (captured.map a.eval)) (fun _ _ => rfl)
      (.fn (by rw [← h1.1]; simp) (by rw [← h2.1]; simp) (fun i x v hx hv => h1.2 i x v hx (by simpa using hv)) (fun i x v hx hv => h2.2 i x v hx (by simpa using hv))) h)
  · rename_i t x lo hi mx
    have bd : ∀ o : Option Operand, BndR w F μ (o.map (opnd env)) (o.map a.eval) := fun o => by
      cases o with
      | none => trivial
      | some y => exact opnd_sound hf y
    exact .of rfl (aslice_sound hty (opnd_sound hf x) (bd lo) (bd hi) (bd mx) h)
  · rename_i s x f
    exact .of rfl (afieldAddr_sound hty hs (opnd_sound hf x) h)
  · rename_i s x f
    exact .of rfl (afield_sound hty hs (opnd_sound hf x) h)
  · rename_i t x i
    exact .of rfl (aindexAddr_sound hty hs (opnd_sound hf x) (opnd_sound hf i) h)
  · rename_i t x i
    exact .of rfl (aindex_sound hty hs (opnd_sound hf x) (opnd_sound hf i) h)
  · rename_i t m k ok
    split at h
    · rename_i hz
      exact .of rfl (alookup_sound hty hs (opnd_sound hf m) (opnd_sound hf k) h (fun sh ed he => by unfold zOkM at hz; rw [he] at hz; exact hasZ_ne hz))
    · exact h.elim
  · rename_i x i
    split at h
    · rename_i vs hvs
      split at h
      · rename_i y hy
        have hx := opnd_sound hf x
        rw [hvs] at hx
        generalize hxe : a.eval x = xv at hx
        cases hx with
        | tup h1 h2 =>
          rename_i us
          rw [nth_eq] at hy
          have hlt : i < us.size := by rw [h1]; exact (List.getElem?_eq_some_iff.1 hy).1
          refine .of (s := Instr.extract (a.eval x) i) rfl (.q (v := us[i]) (fun _ _ => ?_) (h2 i y _ hy (Array.getElem?_eq_getElem hlt)) h)
          rw [hxe]; simp [Instr.extract, hlt]
      · exact h.elim
    · exact h.elim
  · rename_i c
    obtain ⟨callee, args, ats⟩ := c
    simp only [quietOp] at hq
    simp only at h
    have hv := opnds_sound hf args.toList
    split at hq
    · rename_i b
      simp only [abuiltin] at h
      split at h
      · rename_i t x hat hargs
        have hats : ats = #[t] := Array.ext' hat
        subst hats
        rw [hargs] at hv
        obtain ⟨v, hv1⟩ := List.length_eq_one_iff.1 hv.1
        have hx := hv.2 0 x v rfl (by rw [hv1]; rfl)
        have hmap : args.map a.eval = #[v] := Array.ext' (by simpa using hv1)
        refine .of (s := Builtin.len_ #[t] ty #[v]) ?_ (alen_sound hty hs hx h ty)
        simp only [execOp, resolve, hmap]; rfl
      · exact h.elim
    · rename_i b
      simp only [abuiltin] at h
      split at h
      · rename_i t x hat hargs
        have hats : ats = #[t] := Array.ext' hat
        subst hats
        rw [hargs] at hv
        obtain ⟨v, hv1⟩ := List.length_eq_one_iff.1 hv.1
        have hx := hv.2 0 x v rfl (by rw [hv1]; rfl)
        have hmap : args.map a.eval = #[v] := Array.ext' (by simpa using hv1)
        refine .of (s := Builtin.cap_ #[t] ty #[v]) ?_ (acap_sound hty hx h ty)
        simp only [execOp, resolve, hmap]; rfl
      · exact h.elim
    · cases hq
  · exact h.elim

set_option maxHeartbeats 4000000 in
theorem aop_sound (hty : TyOk P δ) (hf : FR w F μ env a.tmps) (hs : St w F μ ob) (h : aop P δ o.op env ob K) (hn : Hands w F μ K o a next) : o.wp P a w next Q := by
  cases hq : quietOp o.op with
  | true =>
    obtain ⟨v, x, h1, h2, h3⟩ := aopQ_sound hty hf hs hq h
    unfold Oper.wp
    rw [h1 w (.refl w)]
    exact hn v x w μ ob h2 hs (.refl w μ) h3
  | false =>
  obtain ⟨dst, op, ty, pos, after, guard⟩ := o
  simp only at h hq
  unfold aop at h
  split at h
  all_goals try (cases hq; done)
  · rename_i t
    split at h
    · rename_i d hd
      split at h
      · rename_i hz
        exact wp_of_done rfl (alloc_sound hty hs hd (hasZ_ne hz) h) hn
      · exact h.elim
    · exact h.elim
  · rename_i t x
    split at h
    · rename_i cs hcs
      exact wp_of_done rfl (box_sound hs (opnd_sound hf x) hcs t h) hn
    · exact h.elim
  · rename_i t len ps
    split at h
    · rename_i hz
      refine wp_of_done (s := Instr.buildSlice t len (ps.map fun (i, x) => (i, a.eval x))) rfl (abuildSlice_sound hty hs (ps := parts env ps.toList) ?_ h (fun d e ed hd hsh hed => ?_)) hn
      · have := parts_sound hf ps.toList
        simpa using this
      · unfold zOkE at hz; simp only [hd, hsh] at hz; unfold zOk at hz; rw [hed] at hz; exact hasZ_ne hz
    · exact h.elim
  · rename_i t m k v
    exact wp_of_doneU rfl (ainsert_sound hty hs (opnd_sound hf m) (opnd_sound hf k) (opnd_sound hf v) h) hn
  · rename_i t m k v
    exact wp_of_doneU rfl (ainsert_sound hty hs (opnd_sound hf m) (opnd_sound hf k) (opnd_sound hf v) h) hn
  · rename_i t x v
    split at h
    · rename_i d hd; exact wp_of_doneU rfl (astore_sound hty hd hs (opnd_sound hf x) (opnd_sound hf v) h) hn
    · exact h.elim
  · rename_i t n c
    exact wp_of_done rfl (amakeSlice_sound hty hs (opnd_sound hf n) (opnd_sound hf c) h) hn
  · rename_i t
    refine wp_of_done (s := Instr.makeMap t none) rfl (Done.of_alloc hs (o := .map #[] 0) (v := .map (some w.heap.size)) (by simp [Instr.makeMap]) (fun w' μ' _ hh => .map #[] 0 hh rfl (fun i x v h => by simp at h)) (fun w' μ' _ hm => by rw [lenL_eq]; exact .mp hm) h) hn
  · rename_i t x
    split at h
    · rename_i d hd
      split at h
      · rename_i hsh
        split at h
        · rename_i s hx
          obtain ⟨u, hu, hsh'⟩ := sh_und hty hd
          rw [hsh] at hsh'; cases u <;> simp [shOf] at hsh'
          have hv := opnd_sound hf x
          rw [hx] at hv
          cases hv with
          | c hv =>
            generalize hae : a.eval x = ae at hv
            cases hv
            refine wp_of_done (s := Instr.range t (.string s.den)) (by simp only [execOp, hae]) (Done.of_alloc hs (o := .stringIter s.den 0) (v := .pointer (some ⟨w.heap.size, 0, none⟩)) (run_range_string w t _ hu) (fun w' μ' _ hh => .sit hh) (fun w' μ' _ hm => by rw [lenL_eq]; exact .ref hm) h) hn
        · exact h.elim
      · exact h.elim
    · exact h.elim
  · rename_i it isStr
    split at h
    · exact wp_of_done rfl (anext_sound hs (opnd_sound hf it) h ty) hn
    · exact h.elim
  · rename_i c
    obtain ⟨callee, args, ats⟩ := c
    simp only at h
    have hv := opnds_sound hf args.toList
    split at h
    · rename_i b
      exact abuiltin_sound hty hs (cargs := args.map a.eval) (by simpa using hv) h hn (ty := ty) (cs := args.map fun | .const _ => true | _ => false) (by simp [execOp, resolve, invoke]; rfl)
    · rename_i f
      refine acallV_sound hs (opnd_sound hf f) (cargs := args.map a.eval) (by simpa using hv) h hn rfl
    · exact h.elim
  · exact h.elim

end
end Go.Abs
