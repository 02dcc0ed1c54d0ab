/- The abstract machine, part 5: the other operations are what they say. -/
import Derived.Test.YtchbobndobpocaaDoorA4
import Derived.Laws.StructEq
namespace Go.Abs
variable [Gl]
section
variable {P : Program} {δ : Nat → Option TD} {w : World} {F : Nat → Prop} {μ : Mu} {ob : List AO} {K : AV → List AO → Prop}

theorem Done.of_alloc (hs : St w F μ ob) {s : Sem Value} {v : Value} {o : Obj} {x : AV} {y : AO} (hr : s.run P w = .ok v (w.alloc o))
    (hy : ∀ w' μ', Ext w μ w' μ' → w'.heap[w.heap.size]? = some o → OB w' F μ' w.heap.size y)
    (hx : ∀ w' μ' : _, Ext w μ w' μ' → μ'[ob.length]? = some (some w.heap.size) → VR w' F μ' x v) (hk : K x (appL ob [y])) : Done P s w F μ K := by
  obtain ⟨h1, h2⟩ := hs.alloc o y hy
  refine ⟨v, _, x, _, _, hr, hx _ _ h2 ?_, h1, h2, by rw [appL_eq] at hk; exact hk⟩
  rw [← hs.len, List.getElem?_append_right (Nat.le_refl _)]
  simp

theorem box_sound (hs : St w F μ ob) {x : AV} {v : Value} (hv : VR w F μ x v) {cs : List AV} (hc : cellsOf x = some cs) (t : TypeId) (h : K (.ref (lenL ob) 0) (appL ob [.box cs])) :
    Done P (Instr.box t v) w F μ K := by
  obtain ⟨h1, h2⟩ := cellsOf_sound hc hv
  refine Done.of_alloc hs (o := .cells v.cells t) (v := .pointer (some ⟨w.heap.size, 0, none⟩)) (by simp [Instr.box, newVar, newRow]) ?_ ?_ h
  · intro w' μ' he hh
    exact .box v.cells t hh h1 fun i y u hy hu => ⟨(h2 i y u hy hu).1.ext he, (h2 i y u hy hu).2⟩
  · intro w' μ' _ hm
    rw [lenL_eq]; exact .ref hm

omit [Gl] in
theorem zero_sound (hty : TyOk P δ) {t : Nat} {d : TD} (hd : δ t = some d) (hz : d.zero ≠ []) : ∃ i z, P.info? t = some i ∧ i.zero = some z ∧ i.size = d.size ∧ z.cells.size = d.size ∧ d.zero.length = d.size ∧
    (∀ vs, z ≠ .tuple vs) ∧ aggV z = d.agg ∧ ∀ (w : World) (O : Nat → Prop) (j : Nat) y u, d.zero[j]? = some y → z.cells[j]? = some u → VT w O y u := by
  obtain ⟨i, u, h1, h2, h3, h4, h5, h6, h7⟩ := (hty t d hd).ok
  rw [h7] at hz
  unfold zeroOf at hz
  split at hz
  · rename_i hble
    split at hz
    · exact absurd rfl hz
    · rename_i z hnt hzz
      split at hz
      · rename_i l hl
        split at hz
        · rename_i hlen hag
          have hlen' : l.length = i.size := Nat.eq_of_beq_eq_true hlen
          have hag' : aggV z = d.agg := by rw [h5]; simpa using hag
          have e : d.zero = l := by
            rw [h7]; unfold zeroOf; simp only [hble, hzz]
            cases z <;> first | exact absurd rfl (hnt _) | simp only [hl, hlen, hag]
          refine ⟨i, z, h1, hzz, h3.symm, ?_, ?_, fun vs e => hnt vs e, hag', fun w O j y u hy hu => ?_⟩
          · have := (ofTs_sound (w := default) (O := fun _ => False) hl).1; simp at this; omega
          · rw [e]; omega
          · rw [e] at hy
            exact (ofTs_sound hl).2 j y u hy (by simpa using hu)
        · exact absurd rfl hz
      · exact absurd rfl hz
    · exact absurd rfl hz
  · exact absurd rfl hz

omit [Gl] in
theorem VT.cell1 {O : Nat → Prop} {y : T} {u : Value} (h : VT w O y u) : u.oneCell' = true := h.one

omit [Gl] in
theorem zeroC_cells (hty : TyOk P δ) {t : Nat} {d : TD} (hd : δ t = some d) (hz : d.zero ≠ []) : ∃ z, (∀ w, (zeroValue t).run P w = .ok z w) ∧ z.cells.size = (zeroC d).length ∧ (zeroC d).length = d.size ∧
    ∀ (w : World) (F : Nat → Prop) (μ : Mu) (j : Nat) x u, (zeroC d)[j]? = some x → z.cells[j]? = some u → VR w F μ x u ∧ u.oneCell' = true := by
  obtain ⟨i, z, h1, h2, h3, h4, h5, h6, _, h7⟩ := zero_sound hty hd hz
  refine ⟨z, fun w => by simp [zeroValue, typeInfo, h1, h2], by simp [zeroC, mapL_eq, h4, h5], by simp [zeroC, mapL_eq, h5], fun w F μ j x u hx hu => ?_⟩
  simp only [zeroC, mapL_eq, List.getElem?_map] at hx
  cases hy : d.zero[j]? with
  | none => rw [hy] at hx; cases hx
  | some y =>
    rw [hy] at hx
    simp at hx
    subst hx
    have := h7 w (own F μ) j y u hy hu
    exact ⟨.c this, this.one⟩

theorem alloc_sound (hty : TyOk P δ) (hs : St w F μ ob) {t : Nat} {d : TD} (hd : δ t = some d) (hz : d.zero ≠ []) (h : K (.ref (lenL ob) 0) (appL ob [.box (zeroC d)])) :
    Done P (Instr.alloc t true (.tuple #[])) w F μ K := by
  obtain ⟨z, h1, h2, _, h3⟩ := zeroC_cells hty hd hz
  refine Done.of_alloc hs (o := .cells z.cells t) (v := .pointer (some ⟨w.heap.size, 0, none⟩)) (by simp [Instr.alloc, h1, newVar, newRow]) ?_ ?_ h
  · intro w' μ' _ hh
    exact .box z.cells t hh h2 fun i y u hy hu => h3 w' F μ' i y u hy hu
  · intro w' μ' _ hm
    rw [lenL_eq]; exact .ref hm

omit [Gl] in
/-- A row is written in the middle. -/
theorem store_run (hty : TyOk P δ) {t : Nat} {d : TD} (hd : δ t = some d) {v : Value} {b off : Nat} {cur : Array Value} {e : TypeId} (hsz : v.cells.size = d.size) (h1 : ∀ u ∈ v.cells.toList, u.oneCell' = true)
    (hg : w.heap[b]? = some (.cells cur e (0, 0))) (hfit : off + v.cells.size ≤ cur.size) :
    (Instr.storeAt t (.pointer (some ⟨b, off, none⟩)) v).run P w = .ok () (w.setRow b (cur.toList.take off ++ v.cells.toList ++ cur.toList.drop (off + v.cells.size)).toArray) := by
  obtain ⟨i, u, g1, g2, g3, g4, g5, g6, g7⟩ := (hty t d hd).ok
  have hst := run_storeCells_at P b off e v.cells.toList 0 cur w hg (by simpa using hfit) h1
  simp only [Nat.add_zero, Array.length_toList] at hst
  simp [Instr.storeAt, Instr.sureAddr, storeVar, run_sizeOf' g1, hsz, g3, hst]

omit [Gl] in
theorem getElem?_splice {α : Type} (l xs : List α) (off : Nat) (h : off + xs.length ≤ l.length) (j : Nat) :
    (l.take off ++ xs ++ l.drop (off + xs.length))[j]? = if j < off then l[j]? else if j < off + xs.length then xs[j - off]? else l[j]? := by
  have h0 : (l.take off).length = off := by simp; omega
  rw [List.append_assoc]
  by_cases h1 : j < off
  · rw [if_pos h1, List.getElem?_append_left (by omega), List.getElem?_take, if_pos h1]
  · rw [if_neg h1, List.getElem?_append_right (by omega), h0]
    by_cases h2 : j < off + xs.length
    · rw [if_pos h2, List.getElem?_append_left (by omega)]
    · rw [if_neg h2, List.getElem?_append_right (by omega), List.getElem?_drop]
      congr 1; omega

/-- What a store comes to. -/
def DoneU (P : Program) (s : Sem Unit) (w : World) (F : Nat → Prop) (μ : Mu) (K : AV → List AO → Prop) : Prop :=
  ∃ w' μ' ob', s.run P w = .ok () w' ∧ St w' F μ' ob' ∧ Ext w μ w' μ' ∧ K AUnit ob'

theorem astore_sound (hty : TyOk P δ) {t : Nat} {d : TD} (hd : δ t = some d) (hs : St w F μ ob) {x y : AV} {a v : Value} (ha : VR w F μ x a) (hv : VR w F μ y v) (h : astore d x y ob K) :
    DoneU P (Instr.storeAt t a v) w F μ K := by
  unfold astore at h
  split at h
  · exact h.elim
  · rename_i vs hvs
    split at h
    · exact h.elim
    · rename_i hl
      obtain ⟨hc1, hc2⟩ := cellsOf_sound hvs hv
      have hsz : v.cells.size = d.size := by rw [hc1, ← lenL_eq]; simpa using hl
      have hone : ∀ u ∈ v.cells.toList, u.oneCell' = true := fun u hu => by
        obtain ⟨j, hj, rfl⟩ := List.getElem_of_mem hu
        have hj' : j < vs.length := by rw [← hc1]; simpa using hj
        exact (hc2 j vs[j] _ (List.getElem?_eq_getElem hj') (by simp at hj; simp [hj])).2
      split at h
      · rename_i o off
        split at h
        · rename_i cs hcs
          split at h
          · rename_i cs' hcs'
            obtain ⟨b, hb, hob⟩ := hs.box hcs (by simp)
            have hae := ha.refE hb
            obtain ⟨hf, hcs'e⟩ := splice_some hcs'
            cases hob with
            | box blk e g1 g2 g3 =>
              have hfit : off + v.cells.size ≤ blk.size := by rw [hc1, g2]; exact hf
              have hrun := store_run hty hd hsz hone g1 hfit
              obtain ⟨r1, r2⟩ := hs.set hb (w.setRow b (blk.toList.take off ++ v.cells.toList ++ blk.toList.drop (off + v.cells.size)).toArray) (.box cs') (by simp)
                (fun b' hb' => setRow_other w b b' _ hb') rfl rfl rfl (fun he => by
                  refine .box _ e (setRow_heap w b blk _ e _ g1) ?_ ?_
                  · rw [hcs'e]; simp [g2]; omega
                  · intro i z u hz hu
                    rw [hcs'e, getElem?_splice cs vs off hf] at hz
                    rw [List.getElem?_toArray] at hu
                    have hl' : v.cells.toList.length = vs.length := by simp [hc1]
                    have hu' := hu
                    rw [show v.cells.size = v.cells.toList.length by simp, getElem?_splice blk.toList v.cells.toList off (by simpa using hfit), hl'] at hu'
                    split at hz
                    · rename_i hi
                      rw [if_pos hi] at hu'
                      exact ⟨(g3 i z u hz (by simpa using hu')).1.ext he, (g3 i z u hz (by simpa using hu')).2⟩
                    · rename_i hi
                      rw [if_neg hi] at hu'
                      split at hz
                      · rename_i hi2
                        rw [if_pos hi2] at hu'
                        exact ⟨(hc2 (i - off) z u hz (by simpa using hu')).1.ext he, (hc2 (i - off) z u hz (by simpa using hu')).2⟩
                      · rename_i hi2
                        rw [if_neg hi2] at hu'
                        exact ⟨(g3 i z u hz (by simpa using hu')).1.ext he, (g3 i z u hz (by simpa using hu')).2⟩)
              exact ⟨_, _, _, by rw [hae]; exact hrun, r1, r2, by rw [setL_eq] at h; exact h⟩
          · exact h.elim
        · exact h.elim
      · rename_i o k i off
        split at h
        · rename_i k' es sz hcs
          split at h
          · rename_i hk
            have hk' : k = k' := by simpa using hk
            subst hk'
            obtain ⟨e0, _, he0, h⟩ := nthT_iff h
            split at h
            · rename_i e' he'
              obtain ⟨b, hb, hob⟩ := hs.box hcs (fun h => by rw [h.1] at he0; simp at he0)
              have hae := ha.erefE hb
              obtain ⟨hf, hee⟩ := splice_some he'
              simp at he0
              cases hob with
              | arr blk ty g1 g2 g3 g4 g6 g5 =>
                have hk0 : e0.length = k := g4 e0 (List.mem_of_getElem? he0)
                have hi : i.den < es.den.length := (List.getElem?_eq_some_iff.1 he0).1
                have hmul : (i.den + 1) * k ≤ es.den.length * k := Nat.mul_le_mul_right _ hi
                have hfit : i.den * k + off + v.cells.size ≤ blk.size := by rw [hc1, g2]; rw [Nat.add_mul] at hmul; omega
                have hrun := store_run hty hd hsz hone g1 hfit
                obtain ⟨r1, r2⟩ := hs.set hb (w.setRow b (blk.toList.take (i.den * k + off) ++ v.cells.toList ++ blk.toList.drop (i.den * k + off + v.cells.size)).toArray) (.arr k (m2 (fun l n => l.set n e') es i) sz) (by simp)
                  (fun b' hb' => setRow_other w b b' _ hb') rfl rfl rfl (fun he => by
                    refine .arr _ ty (setRow_heap w b blk _ ty _ g1) ?_ ?_ ?_ ?_ ?_
                    · simp [← g2]; omega
                    · simpa using g3
                    · intro e hem
                      simp at hem
                      rcases List.mem_or_eq_of_mem_set hem with hm | hm
                      · exact g4 e hm
                      · rw [hm, hee]; simp; omega
                    · intro j u hu
                      rw [List.getElem?_toArray, show v.cells.size = v.cells.toList.length by simp, getElem?_splice blk.toList v.cells.toList _ (by simpa using hfit)] at hu
                      split at hu
                      · exact g6 j u (by simpa using hu)
                      · split at hu
                        · exact hone u (List.mem_of_getElem? hu)
                        · exact g6 j u (by simpa using hu)
                    · intro i' j e x u hei hej hu
                      rw [List.getElem?_toArray] at hu
                      have hl' : v.cells.toList.length = vs.length := by simp [hc1]
                      rw [show v.cells.size = v.cells.toList.length by simp, getElem?_splice blk.toList v.cells.toList _ (by simpa using hfit), hl'] at hu
                      simp at hei
                      by_cases hii : i.den = i'
                      · subst hii
                        rw [List.getElem?_set_self hi] at hei
                        cases hei
                        have hjk : j < k := by
                          have := (List.getElem?_eq_some_iff.1 hej).1
                          rw [hee] at this; simp at this; omega
                        rw [hee, getElem?_splice e0 vs off hf] at hej
                        split at hej
                        · rename_i hjo
                          rw [if_pos (by omega)] at hu
                          have := g5 i.den j e0 x u he0 hej (by simpa using hu)
                          exact ⟨this.1.ext he, this.2⟩
                        · rename_i hjo
                          rw [if_neg (by omega)] at hu
                          split at hej
                          · rename_i hj2
                            rw [if_pos (by omega), show i.den * k + j - (i.den * k + off) = j - off by omega] at hu
                            have := hc2 (j - off) x u hej (by simpa using hu)
                            exact ⟨this.1.ext he, this.2⟩
                          · rename_i hj2
                            rw [if_neg (by omega)] at hu
                            have := g5 i.den j e0 x u he0 hej (by simpa using hu)
                            exact ⟨this.1.ext he, this.2⟩
                      · rw [List.getElem?_set_ne hii] at hei
                        have hjk : j < k := by
                          have := (List.getElem?_eq_some_iff.1 hej).1
                          rw [g4 e (List.mem_of_getElem? hei)] at this; exact this
                        have hne : i' * k + j < i.den * k + off ∨ i.den * k + off + vs.length ≤ i' * k + j := by
                          rcases Nat.lt_or_gt_of_ne hii with hlt | hgt
                          · right
                            have : (i.den + 1) * k ≤ i' * k := Nat.mul_le_mul_right _ hlt
                            rw [Nat.add_mul] at this; omega
                          · left
                            have : (i' + 1) * k ≤ i.den * k := Nat.mul_le_mul_right _ hgt
                            rw [Nat.add_mul] at this; omega
                        have hu' : blk[i' * k + j]? = some u := by
                          rcases hne with hne | hne
                          · rw [if_pos hne] at hu; simpa using hu
                          · rw [if_neg (by omega), if_neg (by omega)] at hu; simpa using hu
                        have := g5 i' j e x u hei hej hu'
                        exact ⟨this.1.ext he, this.2⟩)
                exact ⟨_, _, _, by rw [hae]; exact hrun, r1, r2, by rw [setL_eq] at h; exact h⟩
            · exact h.elim
          · exact h.elim
        · exact h.elim
      · exact h.elim

omit [Gl] in
theorem fieldOf_sound (hty : TyOk P δ) {s f off : Nat} {e : TD} (h : fieldOf δ s f = some (off, e)) :
    ∃ fs fd, P.underlying s = some (.struct fs) ∧ fs[f]? = some fd ∧ fd.offset = off ∧ δ fd.type = some e := by
  unfold fieldOf at h
  split at h
  · rename_i d hd
    split at h
    · rename_i l hl
      split at h
      · rename_i off' t hn
        split at h
        · rename_i e' he
          simp at h
          obtain ⟨rfl, rfl⟩ := h
          obtain ⟨i, u, h1, h2, h3, h4, h5, h6, h7⟩ := (hty s d hd).ok
          rw [hl] at h6
          cases u <;> simp [shOf] at h6
          rename_i fs
          rw [nth_eq, h6, List.getElem?_map] at hn
          cases hf : fs.toList[f]? with
          | none => rw [hf] at hn; cases hn
          | some fd =>
            rw [hf] at hn
            simp at hn
            obtain ⟨a1, a2⟩ := hn
            exact ⟨fs, fd, h2, by simpa using hf, a1, by rw [a2]; exact he⟩
        · cases h
      · cases h
    · cases h
  · cases h

theorem afieldAddr_sound (hty : TyOk P δ) (hs : St w F μ ob) {s f : Nat} {x : AV} {v : Value} (hv : VR w F μ x v) (h : afieldAddr δ s f x ob K) : DoneQ P (Instr.fieldAt s v f) w F μ ob K := by
  unfold afieldAddr at h
  split at h
  · rename_i off e hfo
    obtain ⟨fs, fd, h1, h2, h3, h4⟩ := fieldOf_sound hty hfo
    obtain ⟨i, u, g1, g2, g3, g4, g5, g6, g7⟩ := (hty _ e h4).ok
    split at h
    · exact h.elim
    · rename_i hz
      have hz' : ¬ i.size = 0 := by rw [← g3]; simpa using hz
      have hrun : ∀ (a : Addr) (w : World), (Instr.fieldAt s (.pointer (some a)) f).run P w = .ok (.pointer (some (a.add off))) w := fun a w => by
        simp [Instr.fieldAt, run_underlying h1, h2, Instr.sureAddr, fieldPlace, run_sizeOf' g1, hz', h3]
      split at h
      · rename_i o a
        split at h
        · rename_i hal
          obtain ⟨b, hb⟩ := hs.alive hal
          have hve := hv.refE hb
          exact .q (fun w' _ => by rw [hve, hrun, Addr.add_lit]) (.ref hb) h
        · exact h.elim
      · rename_i o k i a
        cases hv with
        | @eref _ _ _ _ b hb =>
          exact .q (v := .pointer (some ⟨b, i.den * k + (a + off), none⟩)) (fun w' _ => by rw [hrun, Addr.add_lit, Nat.add_assoc]) (.eref hb) h
        | erefD hb => exact .q (fun w' _ => hrun _ _) (.erefD hb) h
      · rename_i cs
        cases hv with
        | c hv =>
          cases hv with
          | vptr c a1 a2 a3 a4 =>
            refine .q (fun w' _ => by rw [hrun, Addr.add_lit]) (.c (.vptr (fun j => c (off + j)) a1 a2 (fun j x hx => ?_) (fun j x hx => ?_))) h
            · rw [dropL_eq, List.getElem?_drop] at hx
              rw [Nat.add_assoc]; exact a3 _ x hx
            · rw [dropL_eq, List.getElem?_drop] at hx
              exact a4 _ x hx
      · exact h.elim
  · exact h.elim

omit [Gl] in
/-- A part of a struct or an array. -/
theorem part_sound (hty : TyOk P δ) {t : Nat} {e : TD} (he : δ t = some e) {cs : List AV} {vs : Array Value} (hl : vs.size = cs.length)
    (hc : ∀ (i : Nat) x v, cs[i]? = some x → vs[i]? = some v → VR w F μ x v ∧ v.oneCell' = true) {off : Nat} {y : AV} (h : loadB cs off e = some y) :
    ∃ v, (∀ w : World, (part t vs off).run P w = .ok v w) ∧ VR w F μ y v := by
  obtain ⟨i, u, g1, g2, g3, g4, g5, g6, g7⟩ := (hty _ e he).ok
  unfold loadB at h
  split at h
  · rename_i hag
    split at h
    · rename_i r hr
      cases h
      obtain ⟨h8, h9⟩ := takeN_some hr
      rw [dropL_eq] at h8 h9
      refine ⟨.agg (vs.extract off (off + e.size)), fun w => by simp [part, run_isAgg g2, ← g5, hag, run_sizeOf' g1, g3], ?_⟩
      have hrl : r.length = e.size := by rw [h9, List.length_take, Nat.min_eq_left h8]
      have hsub : ∀ (j : Nat) x v, r[j]? = some x → (vs.extract off (off + e.size))[j]? = some v → VR w F μ x v ∧ v.oneCell' = true := by
        intro j x v hx hv
        rw [h9, List.getElem?_take] at hx
        split at hx
        · rw [List.getElem?_drop] at hx
          rw [Array.getElem?_extract] at hv
          split at hv
          · exact hc _ x v hx hv
          · cases hv
        · cases hx
      refine .agg (by simp [hrl] at h8 ⊢; omega) (fun j x v hx hv => (hsub j x v hx hv).1) (fun j v hv => ?_)
      have hj : j < r.length := by
        have := (Array.getElem?_eq_some_iff.1 hv).1
        simp at this; omega
      exact (hsub j r[j] v (List.getElem?_eq_getElem hj) hv).2
    · cases h
  · rename_i hag
    rw [nth_eq] at h
    have hlt : off < vs.size := by rw [hl]; exact (List.getElem?_eq_some_iff.1 h).1
    exact ⟨vs[off], fun w => by simp [part, run_isAgg g2, ← g5, hag, hlt], (hc off y _ h (Array.getElem?_eq_getElem hlt)).1⟩

theorem afield_sound (hty : TyOk P δ) (_hs : St w F μ ob) {s f : Nat} {x : AV} {v : Value} (hv : VR w F μ x v) (h : afield δ s f x ob K) : DoneQ P (Instr.field s v f) w F μ ob K := by
  unfold afield at h
  split at h
  · rename_i off e hfo
    obtain ⟨fs, fd, h1, h2, h3, h4⟩ := fieldOf_sound hty hfo
    split at h
    · rename_i cs
      split at h
      · rename_i y hy
        cases hv with
        | agg a1 a2 a3 =>
          obtain ⟨u, hu1, hu2⟩ := part_sound hty h4 a1 (fun i x v hx hv => ⟨a2 i x v hx hv, a3 i v hv⟩) hy
          exact .q (fun w' _ => by simp [Instr.field, run_underlying h1, h2, asAgg, h3, hu1]) hu2 h
      · exact h.elim
    · exact h.elim
  · exact h.elim

omit [Gl] in
theorem sh_und (hty : TyOk P δ) {t : Nat} {d : TD} (hd : δ t = some d) : ∃ u, P.underlying t = some u ∧ shOf u = d.sh := by
  obtain ⟨i, u, h1, h2, h3, h4, h5, h6, h7⟩ := (hty t d hd).ok
  exact ⟨u, h2, h6.symm⟩
omit [Gl] in
theorem size_of (hty : TyOk P δ) {t : Nat} {d : TD} (hd : δ t = some d) : ∃ i, P.info? t = some i ∧ i.size = d.size ∧ i.bytes = d.bytes := by
  obtain ⟨i, u, h1, h2, h3, h4, h5, h6, h7⟩ := (hty t d hd).ok
  exact ⟨i, h1, h3.symm, h4.symm⟩
omit [Gl] in
theorem und_slice (hty : TyOk P δ) {t e : Nat} {d : TD} (hd : δ t = some d) (hs : d.sh = .slice e) : P.underlying t = some (.slice e) := by
  obtain ⟨u, h1, h2⟩ := sh_und hty hd
  rw [hs] at h2; cases u <;> simp [shOf] at h2
  rw [h1, h2]
omit [Gl] in
theorem und_array (hty : TyOk P δ) {t n e : Nat} {d : TD} (hd : δ t = some d) (hs : d.sh = .array n e) : P.underlying t = some (.array n e) := by
  obtain ⟨u, h1, h2⟩ := sh_und hty hd
  rw [hs] at h2; cases u <;> simp [shOf] at h2
  rw [h1, h2.1, h2.2]
omit [Gl] in
theorem und_str (hty : TyOk P δ) {t : Nat} {d : TD} (hd : δ t = some d) (hs : d.sh = .str) : P.underlying t = some .string := by
  obtain ⟨u, h1, h2⟩ := sh_und hty hd
  rw [hs] at h2; cases u <;> simp [shOf] at h2
  exact h1
omit [Gl] in
theorem und_int (hty : TyOk P δ) {t : Nat} {k : IntKind} {d : TD} (hd : δ t = some d) (hs : d.sh = .int k) : P.underlying t = some (.int k) := by
  obtain ⟨u, h1, h2⟩ := sh_und hty hd
  rw [hs] at h2; cases u <;> simp [shOf] at h2
  rw [h1, h2]
omit [Gl] in
theorem und_bool (hty : TyOk P δ) {t : Nat} {d : TD} (hd : δ t = some d) (hs : d.sh = .bool) : P.underlying t = some .bool := by
  obtain ⟨u, h1, h2⟩ := sh_und hty hd
  rw [hs] at h2; cases u <;> simp [shOf] at h2
  exact h1
omit [Gl] in
theorem und_map (hty : TyOk P δ) {t k e : Nat} {d : TD} (hd : δ t = some d) (hs : d.sh = .map k e) : P.underlying t = some (.map k e) := by
  obtain ⟨u, h1, h2⟩ := sh_und hty hd
  rw [hs] at h2; cases u <;> simp [shOf] at h2
  rw [h1, h2.1, h2.2]
omit [Gl] in
theorem und_ptr (hty : TyOk P δ) {t e : Nat} {d : TD} (hd : δ t = some d) (hs : d.sh = .ptr e) : P.underlying t = some (.pointer e) := by
  obtain ⟨u, h1, h2⟩ := sh_und hty hd
  rw [hs] at h2; cases u <;> simp [shOf] at h2
  rw [h1, h2]
omit [Gl] in
theorem und_func (hty : TyOk P δ) {t : Nat} {d : TD} (hd : δ t = some d) (hs : d.sh = .func) : ∃ a b c, P.underlying t = some (.func a b c) := by
  obtain ⟨u, h1, h2⟩ := sh_und hty hd
  rw [hs] at h2; cases u <;> simp [shOf] at h2
  exact ⟨_, _, _, h1⟩
omit [Gl] in
theorem und_struct (hty : TyOk P δ) {t : Nat} {l : List (Nat × Nat)} {d : TD} (hd : δ t = some d) (hs : d.sh = .struct l) : ∃ fs, P.underlying t = some (.struct fs) ∧ fs.toList.map (fun f => (f.offset, f.type)) = l := by
  obtain ⟨u, h1, h2⟩ := sh_und hty hd
  rw [hs] at h2; cases u <;> simp [shOf] at h2
  exact ⟨_, h1, h2⟩

omit [Gl] in
/-- A slice that is immutable: its row. -/
theorem vsl_form {O : Nat → Prop} {x : T} {v : Value} (hx : (∃ k es, x = .vsl k es) ∨ ∃ k f, x = .vslS k f) (h : VT w O x v) : ∃ k p cap, v = .slice p x.rows.length cap ∧
    (∀ k' es, x = .vsl k' es → k' = k) ∧ (∀ k' f, x = .vslS k' f → k' = k) ∧ (p = none → x.rows = [] ∧ cap = 0) ∧ x.rows.length ≤ cap ∧
    (∀ (i : Nat) e, x.rows[i]? = some e → ∃ b off, p = some ⟨b, off, none⟩ ∧ VT w O (.vptr e) (.pointer (some ⟨b, off + i * k, none⟩))) := by
  have key : ∀ {k es v}, VT w O (.vsl k es) v → ∃ p cap, v = .slice p es.length cap ∧ (p = none → es = [] ∧ cap = 0) ∧ es.length ≤ cap ∧
      (∀ (i : Nat) e, es[i]? = some e → ∃ b off, p = some ⟨b, off, none⟩ ∧ VT w O (.vptr e) (.pointer (some ⟨b, off + i * k, none⟩))) := by
    intro k es v h
    cases h with
    | vsl c h1 h2 h3 h4 h5 h6 =>
      refine ⟨_, _, rfl, fun h => (by cases h), h3, fun i e he => ⟨_, _, rfl, .vptr (c i) h1 h2 (fun j x hx => ?_) (fun j x hx => h6 i j e x he hx)⟩⟩
      rw [Nat.add_assoc]; exact h5 i j e x he hx
    | @vsl0 _ a cap h0 => exact ⟨a, cap, rfl, fun h => ⟨rfl, h0 h⟩, Nat.zero_le _, fun i e he => by simp at he⟩
  rcases hx with ⟨k, es, rfl⟩ | ⟨k, f, rfl⟩
  · obtain ⟨p, cap, h1, h2, h3, h6⟩ := key h
    exact ⟨k, p, cap, h1, fun k' es' e => by cases e; rfl, fun k' f e => (by cases e), h2, h3, h6⟩
  · cases h with
    | vslS hf h =>
      rename_i es
      obtain ⟨p, cap, h1, h2, h3, h6⟩ := key h
      have hr : (T.vslS k f).rows = es := by simp only [T.rows, hf]
      rw [hr]
      exact ⟨k, p, cap, h1, fun k' es' e => (by cases e), fun k' f' e => by cases e; rfl, h2, h3, h6⟩
    | vslN hf =>
      have hr : (T.vslS k f).rows = [] := by simp only [T.rows, hf]
      rw [hr]
      exact ⟨k, none, 0, rfl, fun k' es' e => (by cases e), fun k' f' e => by cases e; rfl, fun _ => ⟨rfl, rfl⟩, Nat.zero_le _, fun i e he => by simp at he⟩

omit [Gl] in
theorem inRB_iff {len : Nat} {n : Int} (h : inRB len n = true) : 0 ≤ n ∧ n < len := by simpa [inRB] using h

theorem aindexAddr_sound (hty : TyOk P δ) (hs : St w F μ ob) {t : Nat} {x i : AV} {v vi : Value} (hv : VR w F μ x v) (hi : VR w F μ i vi) (h : aindexAddr δ t x i ob K) : DoneQ P (Instr.indexAt t v vi) w F μ ob K := by
  unfold aindexAddr at h
  split at h
  · rename_i d k n hd
    cases hi with
    | c hi =>
      cases hi with
      | int =>
        split at h
        · rename_i e hsh
          have hu := und_slice hty hd hsh
          split at h
          · rename_i ed hed
            obtain ⟨ie, q1, q2, _⟩ := size_of hty hed
            split at h
            · rename_i o k' i0 len cap
              split at h
              · rename_i hk
                have hk' : k' = ed.size := by simpa using hk
                obtain ⟨hin, h⟩ := mustT_iff h
                simp at hin
                obtain ⟨hin1, hin2⟩ := inRB_iff hin
                cases hv with
                | @sl _ _ _ _ _ b hb _ _ =>
                  refine .q (v := .pointer (some ⟨b, (i0.den + n.den.toNat) * k' + 0, none⟩)) (fun w' _ => ?_) ?_ h
                  · simp [Instr.indexAt, asIntOf, run_underlying hu, hin1, hin2, run_sizeOf' q1, Addr.add_lit, q2, hk', Nat.add_mul]
                  · have := VR.eref (w := w) (F := F) (k := k') (i := m2 (fun i0 n => i0 + n.toNat) i0 n) (off := 0) hb
                    simpa using this
                | @slD _ _ _ _ _ a hb hc _ h0 =>
                  cases a with
                  | none => have := h0 rfl; omega
                  | some a =>
                    refine .q (v := .pointer (some (a.add (n.den.toNat * ed.size)))) (fun w' _ => ?_) (.erefD hb) h
                    simp [Instr.indexAt, asIntOf, run_underlying hu, hin1, hin2, run_sizeOf' q1, q2]
              · exact h.elim
            · rename_i k' es
              split at h
              · rename_i hk
                have hk' : k' = ed.size := by simpa using hk
                obtain ⟨c, hc1, hc2, h⟩ := nthT_iff h
                simp at hc2
                cases hv with
                | c hv =>
                  obtain ⟨k2, p, cap, r1, r6, _, _, _, r7⟩ := vsl_form (.inl ⟨_, _, rfl⟩) hv
                  have hkk := r6 _ _ rfl
                  simp only [T.rows] at r1 r7
                  have hlt : n.den.toNat < es.length := (List.getElem?_eq_some_iff.1 hc2).1
                  obtain ⟨b, off, rfl, r8⟩ := r7 _ c hc2
                  refine .q (fun w' _ => ?_) (.c r8) h
                  rw [r1]
                  have : n.den < es.length := by omega
                  simp [Instr.indexAt, asIntOf, run_underlying hu, hc1, this, run_sizeOf' q1, Addr.add_lit, q2, ← hk', hkk]
              · exact h.elim
            · rename_i k' f
              split at h
              · rename_i hk
                have hk' : k' = ed.size := by simpa using hk
                obtain ⟨c, hc1, hc2, h⟩ := nthT_iff h
                simp at hc2
                cases hv with
                | c hv =>
                  obtain ⟨k2, p, cap, r1, _, r6, _, _, r7⟩ := vsl_form (.inr ⟨_, _, rfl⟩) hv
                  have hkk := r6 _ _ rfl
                  subst hkk
                  have hlt : n.den.toNat < (T.vslS k' f).rows.length := (List.getElem?_eq_some_iff.1 hc2).1
                  obtain ⟨b, off, rfl, r8⟩ := r7 _ c hc2
                  refine .q (fun w' _ => ?_) (.c r8) h
                  rw [r1]
                  have : n.den < (T.vslS k' f).rows.length := by omega
                  simp [Instr.indexAt, asIntOf, run_underlying hu, hc1, this, run_sizeOf' q1, Addr.add_lit, q2, ← hk']
              · exact h.elim
            · exact h.elim
          · exact h.elim
        · rename_i len e hsh
          have hu := und_array hty hd hsh
          split at h
          · rename_i ed hed
            obtain ⟨ie, q1, q2, _⟩ := size_of hty hed
            split at h
            · rename_i o off n'
              split at h
              · rename_i hal hin
                obtain ⟨hin1, hin2⟩ := inRB_iff hin
                obtain ⟨b, hb⟩ := hs.alive hal
                have hve := hv.refE hb
                refine .q (v := .pointer (some ⟨b, off + n'.toNat * ed.size, none⟩)) (fun w' _ => ?_) (.ref hb) h
                rw [hve]
                simp [Instr.indexAt, asIntOf, run_underlying hu, Instr.sureAddr, hin1, hin2, run_sizeOf' q1, Addr.add_lit, q2]
              · exact h.elim
            · exact h.elim
          · exact h.elim
        · exact h.elim
  · exact h.elim

omit [Gl] in
theorem partsA_spec {cs : List AV} {ed : TD} : ∀ {n off : Nat} {l : List AV}, partsA cs ed n off = some l → l.length = n ∧ ∀ (i : Nat) y, l[i]? = some y → loadB cs (off + i * ed.size) ed = some y
  | 0, off, l, h => by simp [partsA] at h; subst h; exact ⟨rfl, fun i y h => by simp at h⟩
  | n + 1, off, l, h => by
    simp only [partsA] at h
    split at h
    · rename_i y r hy hr
      cases h
      obtain ⟨h1, h2⟩ := partsA_spec hr
      refine ⟨by simp [h1], fun i z hz => ?_⟩
      cases i with
      | zero => simp at hz; subst hz; simpa using hy
      | succ i =>
        have := h2 i z (by simpa using hz)
        rw [Nat.add_mul, Nat.one_mul, Nat.add_comm (i * ed.size), ← Nat.add_assoc]; exact this
    · cases h

theorem aindex_sound (hty : TyOk P δ) (_hs : St w F μ ob) {t : Nat} {x i : AV} {v vi : Value} (hv : VR w F μ x v) (hi : VR w F μ i vi) (h : aindex δ t x i ob K) : DoneQ P (Instr.index t v vi) w F μ ob K := by
  unfold aindex at h
  split at h
  · rename_i d k n hd
    cases hi with
    | c hi =>
      cases hi with
      | int =>
        split at h
        · rename_i hsh
          have hu := und_str hty hd hsh
          split at h
          · rename_i s
            cases hv with
            | c hv =>
              cases hv with
              | str =>
                obtain ⟨hin, h⟩ := mustT_iff h
                simp at hin
                obtain ⟨hin1, hin2⟩ := inRB_iff hin
                have hlt : n.den.toNat < s.den.size := by omega
                refine .q (v := .int .u8 (byteAt s.den n.den)) (fun w' _ => ?_) ?_ h
                · have : s.den[n.den.toNat]? = some s.den[n.den.toNat] := by simp [hlt]
                  simp only [Instr.index, asIntOf, Sem.run_bind, Sem.run_pure, Result.andThen_ok, run_underlying hu, if_pos hin1, this]
                  have e : s.den.data.toList.getD n.den.toNat 0 = s.den[n.den.toNat] := by
                    have : n.den.toNat < s.den.data.toList.length := by simpa using hlt
                    rw [List.getD, List.getElem?_eq_getElem this]; rfl
                  simp only [byteAt, e]
                · have := VT.int (w := w) (O := own F μ) (k := .u8) (n := m2 byteAt s n)
                  simpa using VR.c this
          · exact h.elim
        · rename_i len e hsh
          have hu := und_array hty hd hsh
          split at h
          · rename_i ed hed
            obtain ⟨ie, q1, q2, _⟩ := size_of hty hed
            split at h
            · rename_i cs
              split at h
              · rename_i l hl
                obtain ⟨l1, l2⟩ := partsA_spec hl
                obtain ⟨y, hn1, hn2, h⟩ := nthT_iff h
                simp at hn2
                have hlt : n.den.toNat < len := by rw [← l1]; exact (List.getElem?_eq_some_iff.1 hn2).1
                cases hv with
                | agg a1 a2 a3 =>
                  obtain ⟨u, hu1, hu2⟩ := part_sound hty hed a1 (fun i x v hx hv => ⟨a2 i x v hx hv, a3 i v hv⟩) (l2 _ _ hn2)
                  rw [Nat.zero_add] at hu1
                  have hlt' : n.den < len := by omega
                  exact .q (fun w' _ => by simp [Instr.index, asIntOf, run_underlying hu, hn1, hlt', run_sizeOf' q1, q2, hu1]) hu2 h
              · exact h.elim
            · exact h.elim
          · exact h.elim
        · exact h.elim
  · exact h.elim

end
end Go.Abs
