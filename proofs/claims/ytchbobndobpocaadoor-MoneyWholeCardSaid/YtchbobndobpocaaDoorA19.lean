/- The abstract machine, part 19: calls that are handed objects of one's own. -/
import Derived.Test.YtchbobndobpocaaDoorA18
namespace Go.Abs
variable [Gl]

/-! ### What is kept aside -/
def hideO (kp : List Nat) : Nat → List AO → List AO
  | _, [] => []
  | i, x :: l => (match memN kp i with | true => x | false => .dead) :: hideO kp (i + 1) l
omit [Gl] in
theorem hideO_get (kp : List Nat) : ∀ (l : List AO) (i j : Nat), (hideO kp i l)[j]? = (l[j]?).map fun x => match memN kp (i + j) with | true => x | false => .dead
  | [], i, j => by simp [hideO]
  | x :: l, i, 0 => by simp [hideO]
  | x :: l, i, j + 1 => by
    simp only [hideO, List.getElem?_cons_succ]
    rw [hideO_get kp l (i + 1) j, show i + 1 + j = i + (j + 1) by omega]
omit [Gl] in
theorem hideO_len (kp : List Nat) : ∀ (l : List AO) (i : Nat), (hideO kp i l).length = l.length
  | [], i => rfl
  | x :: l, i => by simp [hideO, hideO_len kp l (i + 1)]
def hideMu (kp : List Nat) : Nat → Mu → Mu
  | _, [] => []
  | i, x :: l => (match memN kp i with | true => x | false => none) :: hideMu kp (i + 1) l
omit [Gl] in
theorem hideMu_get (kp : List Nat) : ∀ (l : Mu) (i j : Nat), (hideMu kp i l)[j]? = (l[j]?).map fun x => match memN kp (i + j) with | true => x | false => none
  | [], i, j => by simp [hideMu]
  | x :: l, i, 0 => by simp [hideMu]
  | x :: l, i, j + 1 => by
    simp only [hideMu, List.getElem?_cons_succ]
    rw [hideMu_get kp l (i + 1) j, show i + 1 + j = i + (j + 1) by omega]
omit [Gl] in
theorem hideMu_len (kp : List Nat) : ∀ (l : Mu) (i : Nat), (hideMu kp i l).length = l.length
  | [], i => rfl
  | x :: l, i => by simp [hideMu, hideMu_len kp l (i + 1)]

/-- The frame, with what is kept aside. -/
def hideF (F : Nat → Prop) (μ : Mu) (kp : List Nat) (b : Nat) : Prop := F b ∨ ∃ o : Nat, memN kp o = false ∧ μ[o]? = some (some b)

section
variable {w : World} {F : Nat → Prop} {μ : Mu} {ob : List AO} {kp : List Nat}

omit [Gl] in
theorem hideMu_some {q b : Nat} (h : (hideMu kp 0 μ)[q]? = some (some b)) : memN kp q = true ∧ μ[q]? = some (some b) := by
  rw [hideMu_get, Nat.zero_add] at h
  cases hm : μ[q]? with
  | none => rw [hm] at h; cases h
  | some x =>
    rw [hm] at h
    cases hk : memN kp q with
    | true => rw [hk] at h; simp at h; exact ⟨rfl, by rw [h]⟩
    | false => rw [hk] at h; simp at h
omit [Gl] in
theorem hideMu_kept {q : Nat} {x : Option Nat} (hk : memN kp q = true) (h : μ[q]? = some x) : (hideMu kp 0 μ)[q]? = some x := by
  rw [hideMu_get, Nat.zero_add, h, hk]; rfl
omit [Gl] in
theorem hideMu_gone {q : Nat} {x : Option Nat} (hk : memN kp q = false) (h : μ[q]? = some x) : (hideMu kp 0 μ)[q]? = some none := by
  rw [hideMu_get, Nat.zero_add, h, hk]; rfl
omit [Gl] in
theorem hide_own (b : Nat) : own (hideF F μ kp) (hideMu kp 0 μ) b ↔ own F μ b := by
  constructor
  · rintro (h | h | ⟨o, h1, h2⟩)
    · obtain ⟨q, hq⟩ := mem_of h
      exact .inl (List.mem_of_getElem? (hideMu_some hq).2)
    · exact .inr h
    · exact .inl (List.mem_of_getElem? h2)
  · rintro (h | h)
    · obtain ⟨q, hq⟩ := mem_of h
      cases hk : memN kp q with
      | true => exact .inl (List.mem_of_getElem? (hideMu_kept hk hq))
      | false => exact .inr (.inr ⟨q, hk, hq⟩)
    · exact .inr (.inl h)

omit [Gl] in
theorem VR.hide {x : AV} {v : Value} (h : VR w F μ x v) : VR w (hideF F μ kp) (hideMu kp 0 μ) x v := by
  have get : ∀ {o : Nat} {z : Option Nat}, μ[o]? = some z → (hideMu kp 0 μ)[o]? = some z ∨ (hideMu kp 0 μ)[o]? = some none := by
    intro o z h
    cases hk : memN kp o with
    | true => exact .inl (hideMu_kept hk h)
    | false => exact .inr (hideMu_gone hk h)
  have get0 : ∀ {o : Nat}, μ[o]? = some none → (hideMu kp 0 μ)[o]? = some none := fun h => by rcases get h with h | h <;> exact h
  induction h with
  | c h => exact .c (h.mono (Nat.le_refl _) (fun _ _ _ => rfl) (fun b _ hn ho => hn ((hide_own b).1 ho)))
  | ref h => rcases get h with h | h; exact .ref h; exact .refD h
  | refD h => exact .refD (get0 h)
  | eref h => rcases get h with h | h; exact .eref h; exact .erefD h
  | erefD h => exact .erefD (get0 h)
  | sl h h1 h2 => rcases get h with h | h; exact .sl h h1 h2; exact .slD h h1 h2 (fun h => by cases h)
  | slD h h1 h2 h3 => exact .slD (get0 h) h1 h2 h3
  | mp h => rcases get h with h | h; exact .mp h; exact .mpD h rfl
  | mpD h h1 => exact .mpD (get0 h) h1
  | fn h1 h2 _ _ i1 i2 => exact .fn h1 h2 i1 i2
  | ifc _ ih => exact .ifc ih
  | agg h1 _ h3 ih => exact .agg h1 ih h3
  | tup h1 _ ih => exact .tup h1 ih
  | junk => exact .junk

omit [Gl] in
theorem OB.hide {b : Nat} {x : AO} (h : OB w F μ b x) : OB w (hideF F μ kp) (hideMu kp 0 μ) b x := by
  cases h with
  | box blk e h1 h2 h3 => exact .box blk e h1 h2 fun i x v a b => ⟨(h3 i x v a b).1.hide, (h3 i x v a b).2⟩
  | arr blk e h1 h2 h3 h4 h6 h5 => exact .arr blk e h1 h2 h3 h4 h6 fun i j e x v a b c => ⟨(h5 i j e x v a b c).1.hide, (h5 i j e x v a b c).2⟩
  | map es cl h1 h2 h3 => exact .map es cl h1 h2 fun i x v a b => ⟨(h3 i x v a b).1.hide, (h3 i x v a b).2.hide⟩
  | sit h1 => exact .sit h1

theorem St.hide (hs : St w F μ ob) : St w (hideF F μ kp) (hideMu kp 0 μ) (hideO kp 0 ob) where
  len := by rw [hideMu_len, hideO_len, hs.len]
  inj o o' b h1 h2 := hs.inj o o' b (hideMu_some h1).2 (hideMu_some h2).2
  lt o b h := hs.lt o b (hideMu_some h).2
  dead o h := by
    rw [hideMu_get, Nat.zero_add] at h
    cases hm : μ[o]? with
    | none => rw [hm] at h; cases h
    | some x =>
      have hlt : o < ob.length := by rw [← hs.len]; exact (List.getElem?_eq_some_iff.1 hm).1
      rw [hideO_get, Nat.zero_add]
      cases hk : memN kp o with
      | false => exact ⟨.dead, by rw [List.getElem?_eq_getElem hlt]; rfl, trivial⟩
      | true =>
        rw [hm, hk] at h
        simp at h
        subst h
        obtain ⟨y, g1, g2⟩ := hs.dead o hm
        exact ⟨y, by rw [g1]; rfl, g2⟩
  frame b hb := by
    rcases hb with hb | ⟨o, h1, h2⟩
    · refine ⟨(hs.frame b hb).1, fun hm => ?_⟩
      obtain ⟨q, hq⟩ := mem_of hm
      exact (hs.frame b hb).2 (List.mem_of_getElem? (hideMu_some hq).2)
    · refine ⟨hs.lt o b h2, fun hm => ?_⟩
      obtain ⟨q, hq⟩ := mem_of hm
      obtain ⟨g1, g2⟩ := hideMu_some hq
      have := hs.inj o q b h2 g2
      subst this
      rw [h1] at g1; cases g1
  live o b h := by
    obtain ⟨g1, g2⟩ := hideMu_some h
    obtain ⟨x, k1, k2⟩ := hs.live o b g2
    exact ⟨x, by rw [hideO_get, Nat.zero_add, k1, g1]; rfl, k2.hide⟩
  gl := hs.gl.sub fun b _ h => (hide_own b).1 h
end

/-! ### Back into the caller's numbers -/
def mvN (sel : List Nat) (n q : Nat) : Nat := match nth sel q with | some p => p | none => n + (q - lenL sel)
mutual
def mvA (sel : List Nat) (n : Nat) : AV → AV
  | .ref o off => .ref (mvN sel n o) off
  | .eref o k i off => .eref (mvN sel n o) k i off
  | .sl o k i len cap => .sl (mvN sel n o) k i len cap
  | .mp o => .mp (mvN sel n o)
  | .fn f a b => .fn f (mvL sel n a) (mvL sel n b)
  | .ifc t x => .ifc t (mvA sel n x)
  | .agg cs => .agg (mvL sel n cs)
  | .tup cs => .tup (mvL sel n cs)
  | .c t => .c t
  | .junk => .junk
def mvL (sel : List Nat) (n : Nat) : List AV → List AV
  | [] => []
  | x :: l => mvA sel n x :: mvL sel n l
end
def mvE (sel : List Nat) (n : Nat) : List (AV × AV) → List (AV × AV)
  | [] => []
  | x :: l => (mvA sel n x.1, mvA sel n x.2) :: mvE sel n l
def mvO (sel : List Nat) (n : Nat) : AO → AO
  | .box cs => .box (mvL sel n cs)
  | .arr k es sz => .arr k es sz
  | .map es => .map (mvE sel n es)
  | .sit s p => .sit s p
  | .dead => .dead
omit [Gl] in
theorem mvL_get (sel : List Nat) (n : Nat) : ∀ (l : List AV) (i : Nat), (mvL sel n l)[i]? = (l[i]?).map (mvA sel n)
  | [], i => by simp [mvL]
  | x :: l, 0 => by simp [mvL]
  | x :: l, i + 1 => by simp [mvL, mvL_get sel n l i]
omit [Gl] in
theorem mvL_len (sel : List Nat) (n : Nat) : ∀ (l : List AV), (mvL sel n l).length = l.length
  | [] => rfl
  | x :: l => by simp [mvL, mvL_len sel n l]
omit [Gl] in
theorem mvE_get (sel : List Nat) (n : Nat) : ∀ (l : List (AV × AV)) (i : Nat), (mvE sel n l)[i]? = (l[i]?).map fun x => (mvA sel n x.1, mvA sel n x.2)
  | [], i => by simp [mvE]
  | x :: l, 0 => by simp [mvE]
  | x :: l, i + 1 => by simp [mvE, mvE_get sel n l i]
omit [Gl] in
theorem mvE_len (sel : List Nat) (n : Nat) : ∀ (l : List (AV × AV)), (mvE sel n l).length = l.length
  | [] => rfl
  | x :: l => by simp [mvE, mvE_len sel n l]

def findN : List Nat → Nat → Nat → Option Nat
  | [], _, _ => none
  | a :: l, p, i => match a == p with | true => some i | false => findN l p (i + 1)
omit [Gl] in
theorem findN_some : ∀ {l : List Nat} {p i q : Nat}, findN l p i = some q → i ≤ q ∧ l[q - i]? = some p
  | [], _, _, _, h => by simp [findN] at h
  | a :: l, p, i, q, h => by
    simp only [findN] at h
    split at h
    · rename_i ha
      cases h
      exact ⟨Nat.le_refl _, by simpa using ha⟩
    · obtain ⟨h1, h2⟩ := findN_some h
      exact ⟨by omega, by rw [show q - i = (q - (i + 1)) + 1 by omega, List.getElem?_cons_succ]; exact h2⟩
omit [Gl] in
theorem findN_none : ∀ {l : List Nat} {p i : Nat}, findN l p i = none → ∀ q : Nat, l[q]? ≠ some p
  | [], _, _, _, q => by simp
  | a :: l, p, i, h, q => by
    simp only [findN] at h
    split at h
    · cases h
    · rename_i ha
      cases q with
      | zero => simpa using ha
      | succ q => simpa using findN_none h q

/-- The caller's objects behind the call: those that were handed over as the callee left them, those that were frozen for good dead, the callee's new ones behind them. -/
def mrg1 (sel fr : List Nat) (n : Nat) (o : List AO) : Nat → List AO → List AO
  | _, [] => []
  | i, x :: l => (match findN sel i 0 with
      | some q => match nth o q with | some y => mvO sel n y | none => .dead
      | none => match memN fr i with | true => .dead | false => x) :: mrg1 sel fr n o (i + 1) l
def mrg (sel fr : List Nat) (ob o : List AO) : List AO := appL (mrg1 sel fr (lenL ob) o 0 ob) (mapL (mvO sel (lenL ob)) (dropL o (lenL sel)))
omit [Gl] in
theorem mrg1_get (sel fr : List Nat) (n : Nat) (o : List AO) : ∀ (l : List AO) (i j : Nat), (mrg1 sel fr n o i l)[j]? = (l[j]?).map fun x => match findN sel (i + j) 0 with
      | some q => match nth o q with | some y => mvO sel n y | none => .dead
      | none => match memN fr (i + j) with | true => .dead | false => x
  | [], i, j => by simp [mrg1]
  | x :: l, i, 0 => by simp [mrg1]
  | x :: l, i, j + 1 => by
    simp only [mrg1, List.getElem?_cons_succ]
    rw [mrg1_get sel fr n o l (i + 1) j, show i + 1 + j = i + (j + 1) by omega]
omit [Gl] in
theorem mrg1_len (sel fr : List Nat) (n : Nat) (o : List AO) : ∀ (l : List AO) (i : Nat), (mrg1 sel fr n o i l).length = l.length
  | [], i => rfl
  | x :: l, i => by simp [mrg1, mrg1_len sel fr n o l (i + 1)]
def mrgMu1 (sel fr : List Nat) (μ1 : Mu) : Nat → Mu → Mu
  | _, [] => []
  | i, x :: l => (match findN sel i 0 with
      | some q => (match μ1[q]? with | some y => y | none => none)
      | none => match memN fr i with | true => none | false => x) :: mrgMu1 sel fr μ1 (i + 1) l
omit [Gl] in
theorem mrgMu1_get (sel fr : List Nat) (μ1 : Mu) : ∀ (l : Mu) (i j : Nat), (mrgMu1 sel fr μ1 i l)[j]? = (l[j]?).map fun x => match findN sel (i + j) 0 with
      | some q => (match μ1[q]? with | some y => y | none => none)
      | none => match memN fr (i + j) with | true => none | false => x
  | [], i, j => by simp [mrgMu1]
  | x :: l, i, 0 => by simp [mrgMu1]
  | x :: l, i, j + 1 => by
    simp only [mrgMu1, List.getElem?_cons_succ]
    rw [mrgMu1_get sel fr μ1 l (i + 1) j, show i + 1 + j = i + (j + 1) by omega]
omit [Gl] in
theorem mrgMu1_len (sel fr : List Nat) (μ1 : Mu) : ∀ (l : Mu) (i : Nat), (mrgMu1 sel fr μ1 i l).length = l.length
  | [], i => rfl
  | x :: l, i => by simp [mrgMu1, mrgMu1_len sel fr μ1 l (i + 1)]

/-- Lists hold nothing that names an object. -/
def ArrPure (o : List AO) : Prop := ∀ x ∈ o, match x with | .arr _ es _ => ∀ e ∈ es.den, pureL e = true | _ => True
omit [Gl] in
theorem ArrPure.nil : ArrPure [] := fun x h => by cases h
omit [Gl] in
theorem ArrPure.box {cs : List AV} {ob : List AO} (h : ArrPure ob) : ArrPure (.box cs :: ob) := fun x hx => by
  rcases List.mem_cons.1 hx with rfl | hx
  · trivial
  · exact h x hx
omit [Gl] in
theorem ArrPure.dead {ob : List AO} (h : ArrPure ob) : ArrPure (.dead :: ob) := fun x hx => by
  rcases List.mem_cons.1 hx with rfl | hx
  · trivial
  · exact h x hx
omit [Gl] in
theorem ArrPure.map {es : List (AV × AV)} {ob : List AO} (h : ArrPure ob) : ArrPure (.map es :: ob) := fun x hx => by
  rcases List.mem_cons.1 hx with rfl | hx
  · trivial
  · exact h x hx
omit [Gl] in
theorem ArrPure.arr {k : Nat} {es : Th (List (List AV))} {sz : Th Nat} {ob : List AO} (he : ∀ e ∈ es.den, pureL e = true) (h : ArrPure ob) : ArrPure (.arr k es sz :: ob) := fun x hx => by
  rcases List.mem_cons.1 hx with rfl | hx
  · exact he
  · exact h x hx

section
variable {w : World} {F F1 : Nat → Prop} {μ μ1 : Mu} {sel : List Nat} {n : Nat}
omit [Gl] in
theorem VR.mv (ht : ∀ t v, VT w (own F1 μ1) t v → VT w (own F μ) t v) (hm : ∀ (q : Nat) z, μ1[q]? = some z → μ[mvN sel n q]? = some z) {x : AV} {v : Value} (h : VR w F1 μ1 x v) : VR w F μ (mvA sel n x) v := by
  induction h with
  | c h => exact .c (ht _ _ h)
  | ref h => exact .ref (hm _ _ h)
  | refD h => exact .refD (hm _ _ h)
  | eref h => exact .eref (hm _ _ h)
  | erefD h => exact .erefD (hm _ _ h)
  | sl h h1 h2 => exact .sl (hm _ _ h) h1 h2
  | slD h h1 h2 h3 => exact .slD (hm _ _ h) h1 h2 h3
  | mp h => exact .mp (hm _ _ h)
  | mpD h h1 => exact .mpD (hm _ _ h) h1
  | fn h1 h2 _ _ i1 i2 =>
    refine .fn (by rw [h1, mvL_len]) (by rw [h2, mvL_len]) (fun i x v hx hv => ?_) (fun i x v hx hv => ?_)
    · rw [mvL_get] at hx
      obtain ⟨y, hy, rfl⟩ := Option.map_eq_some_iff.1 hx
      exact i1 i y v hy hv
    · rw [mvL_get] at hx
      obtain ⟨y, hy, rfl⟩ := Option.map_eq_some_iff.1 hx
      exact i2 i y v hy hv
  | ifc _ ih => exact .ifc ih
  | agg h1 _ h3 ih =>
    refine .agg (by rw [h1, mvL_len]) (fun i x v hx hv => ?_) h3
    rw [mvL_get] at hx
    obtain ⟨y, hy, rfl⟩ := Option.map_eq_some_iff.1 hx
    exact ih i y v hy hv
  | tup h1 _ ih =>
    refine .tup (by rw [h1, mvL_len]) (fun i x v hx hv => ?_)
    rw [mvL_get] at hx
    obtain ⟨y, hy, rfl⟩ := Option.map_eq_some_iff.1 hx
    exact ih i y v hy hv
  | junk => exact .junk
omit [Gl] in
theorem OB.mv (ht : ∀ t v, VT w (own F1 μ1) t v → VT w (own F μ) t v) (hm : ∀ (q : Nat) z, μ1[q]? = some z → μ[mvN sel n q]? = some z) {x : AO} {b : Nat} (hp : match x with | .arr _ es _ => ∀ e ∈ es.den, pureL e = true | _ => True) (h : OB w F1 μ1 b x) : OB w F μ b (mvO sel n x) := by
  cases h with
  | box blk e h1 h2 h3 =>
    refine .box blk e h1 (by rw [h2, mvL_len]) fun i x v hx hv => ?_
    rw [mvL_get] at hx
    obtain ⟨y, hy, rfl⟩ := Option.map_eq_some_iff.1 hx
    exact ⟨(h3 i y v hy hv).1.mv ht hm, (h3 i y v hy hv).2⟩
  | arr blk e h1 h2 h3 h4 h6 h5 =>
    exact .arr blk e h1 h2 h3 h4 h6 fun i j e x v a b c => ⟨(h5 i j e x v a b c).1.pure ht (pureL_get (hp e (List.mem_of_getElem? a)) j x b), (h5 i j e x v a b c).2⟩
  | map es cl h1 h2 h3 =>
    refine .map es cl h1 (by rw [h2, mvE_len]) fun i x v hx hv => ?_
    rw [mvE_get] at hx
    obtain ⟨y, hy, rfl⟩ := Option.map_eq_some_iff.1 hx
    exact ⟨(h3 i y v hy hv).1.mv ht hm, (h3 i y v hy hv).2.mv ht hm⟩
  | sit h1 => exact .sit h1
end

omit [Gl] in
theorem memN_iff {l : List Nat} {n : Nat} : memN l n = true ↔ n ∈ l := by
  induction l with
  | nil => simp [memN]
  | cons a l ih =>
    simp only [memN]
    split
    · rename_i h
      have : a = n := by simpa using h
      simp [this]
    · rename_i h
      have : ¬ a = n := by simpa using h
      rw [ih]
      simp
      omega

def ltAll (n : Nat) : List Nat → Bool
  | [] => true
  | p :: l => match Nat.blt p n with | true => ltAll n l | false => false
omit [Gl] in
theorem ltAll_get {n : Nat} : ∀ {l : List Nat}, ltAll n l = true → ∀ (q p : Nat), l[q]? = some p → p < n
  | [], _, q, p, h => by simp at h
  | a :: l, hl, q, p, h => by
    simp only [ltAll] at hl
    split at hl
    · rename_i ha
      cases q with
      | zero => simp at h; subst h; exact Nat.le_of_ble_eq_true ha
      | succ q => exact ltAll_get hl q p (by simpa using h)
    · cases hl

section
variable {P : Program} {δ : Nat → Option TD}

/-- **A call that is handed the objects 'sel'**; of the others the lists 'fr' may be frozen, for good. -/
theorem ACall.own {f : FuncId} {args args0 : List AV} {ob ob0 : List AO} {K0 K : AV → List AO → Prop} (h : ACall P f args0 ob0 K0) (sel fr : List Nat) (hd : distinct sel = true) (hlt : ltAll (lenL ob) sel = true)
    (ha : RVs 0 sel (hideO (sel ++ fr) 0 ob) args args0) (ho : ROs 0 sel (hideO (sel ++ fr) 0 ob) sel ob0) (hk : ∀ x o, K0 x o → ArrPure o ∧ K (mvA sel (lenL ob) x) (mrg sel fr ob o)) : ACall P f args ob K := by
  refine ⟨fun w F μ cargs hv hs => ?_⟩
  have hs2 := hs.hide (kp := sel ++ fr)
  generalize hF1 : hideF F μ (sel ++ fr) = F1 at hs2
  generalize hμ2 : hideMu (sel ++ fr) 0 μ = μ2 at hs2
  have hown : ∀ b, Abs.own F1 μ2 b ↔ Abs.own F μ b := fun b => by rw [← hF1, ← hμ2]; exact hide_own b
  have h0 : St w F1 [] [] :=
    { len := rfl, inj := fun o o' b h => by simp at h, lt := fun o b h => by simp at h, dead := fun o h => by simp at h, frame := fun b h => ⟨(hs2.frame b h).1, by simp⟩, live := fun o b h => by simp at h, gl := hs2.gl.sub fun b _ h => h.elim (fun h => by simp at h) .inr }
  obtain ⟨g1, g2, g3⟩ := St.rename (π := sel) h0 (Nat.le_refl _) (fun b => ⟨fun h => .inr h, fun h => by
    rcases h with h | h
    · simp at h
    · exact h⟩) hs2 ho hd (fun _ q b h => by simp at h)
  simp only [List.nil_append] at g1 g3
  have hv0 : VRs w F1 (selMu μ2 sel) args0 cargs.toList := by
    refine ⟨by rw [hv.1, ha.len], fun i y v hy hu => ?_⟩
    have hl := (List.getElem?_eq_some_iff.1 hy).1
    have hx := hv.2 i _ v (List.getElem?_eq_getElem (ha.len ▸ hl)) hu
    refine g3 _ y v (ha.get i _ y (List.getElem?_eq_getElem (ha.len ▸ hl)) hy) ?_
    rw [← hF1, ← hμ2]; exact hx.hide
  have hr := h.run w F1 (selMu μ2 sel) cargs hv0 g1
  have hsell : (selMu μ2 sel).length = sel.length := by simp [selMu]
  have hnl : lenL ob = μ.length := by rw [lenL_eq, hs.len]
  have post : ∀ e w', (∃ v x ob' μ', e = Ending.returned v ∧ VR w' F1 μ' x v ∧ St w' F1 μ' ob' ∧ Ext w (selMu μ2 sel) w' μ' ∧ K0 x ob') → ∃ v x ob' μ', e = Ending.returned v ∧ VR w' F μ' x v ∧ St w' F μ' ob' ∧ Ext w μ w' μ' ∧ K x ob' := by
    intro e w' ⟨v, x, o, μ1, k1, k2, k3, k4, k5⟩
    obtain ⟨hp, hK⟩ := hk x o k5
    have hsl : sel.length ≤ μ1.length := by rw [← hsell]; exact k4.len
    let μ' : Mu := mrgMu1 sel fr μ1 0 μ ++ μ1.drop sel.length
    have hmem1 : ∀ (q p : Nat), sel[q]? = some p → memN (sel ++ fr) p = true := fun q p h => memN_iff.2 (List.mem_append.2 (.inl (List.mem_of_getElem? h)))
    -- where each comes from
    have get : ∀ (i : Nat) z, μ'[i]? = some z → (i < μ.length ∧ ((∃ q : Nat, sel[q]? = some i ∧ μ1[q]? = some z) ∨ (findN sel i 0 = none ∧ memN fr i = true ∧ z = none) ∨ (findN sel i 0 = none ∧ memN fr i = false ∧ μ[i]? = some z))) ∨
        (∃ q : Nat, sel.length ≤ q ∧ i = μ.length + (q - sel.length) ∧ μ1[q]? = some z) := by
      intro i z h
      have hl1 : (mrgMu1 sel fr μ1 0 μ).length = μ.length := mrgMu1_len _ _ _ _ _
      rcases Nat.lt_or_ge i μ.length with hi | hi
      · left
        refine ⟨hi, ?_⟩
        simp only [μ'] at h
        rw [List.getElem?_append_left (by rw [hl1]; exact hi), mrgMu1_get, Nat.zero_add, List.getElem?_eq_getElem hi, Option.map_some] at h
        cases hf : findN sel i 0 with
        | some q =>
          rw [hf] at h
          obtain ⟨_, hq⟩ := findN_some hf
          rw [Nat.sub_zero] at hq
          have hql := (List.getElem?_eq_some_iff.1 hq).1
          left
          refine ⟨q, hq, ?_⟩
          have hq2 : μ1[q]? = some μ1[q] := List.getElem?_eq_getElem (by omega)
          simp only [hq2] at h
          rw [hq2]; exact h
        | none =>
          rw [hf] at h
          cases hm : memN fr i with
          | true => rw [hm] at h; simp at h; exact .inr (.inl ⟨rfl, rfl, h.symm⟩)
          | false => rw [hm] at h; simp at h; exact .inr (.inr ⟨rfl, rfl, by rw [List.getElem?_eq_getElem hi, h]⟩)
      · right
        simp only [μ'] at h
        rw [List.getElem?_append_right (by rw [hl1]; exact hi), hl1, List.getElem?_drop] at h
        exact ⟨sel.length + (i - μ.length), by omega, by omega, h⟩
    have put : ∀ (q : Nat) z, μ1[q]? = some z → μ'[mvN sel (lenL ob) q]? = some z := by
      intro q z hq
      have hl1 : (mrgMu1 sel fr μ1 0 μ).length = μ.length := mrgMu1_len _ _ _ _ _
      unfold mvN
      rw [nth_eq]
      cases hsq : sel[q]? with
      | some p =>
        have hpl : p < μ.length := by rw [← hnl]; exact ltAll_get hlt q p hsq
        simp only [μ']
        rw [List.getElem?_append_left (by rw [hl1]; exact hpl), mrgMu1_get, Nat.zero_add, List.getElem?_eq_getElem hpl, Option.map_some]
        cases hf : findN sel p 0 with
        | none => exact (findN_none hf q hsq).elim
        | some q' =>
          obtain ⟨_, hq'⟩ := findN_some hf
          rw [Nat.sub_zero] at hq'
          have := distinct_inj hd q q' p hsq hq'
          subst this
          simp [hq]
      | none =>
        rw [List.getElem?_eq_none_iff] at hsq
        simp only [μ', lenL_eq, hs.len.symm]
        rw [List.getElem?_append_right (by rw [hl1]; omega), hl1, List.getElem?_drop, show sel.length + (μ.length + (q - sel.length) - μ.length) = q by omega]
        exact hq
    have kept : ∀ (i : Nat) z, findN sel i 0 = none → memN fr i = false → μ[i]? = some z → μ'[i]? = some z := by
      intro i z hf hm hz
      have hl1 : (mrgMu1 sel fr μ1 0 μ).length = μ.length := mrgMu1_len _ _ _ _ _
      have hil := (List.getElem?_eq_some_iff.1 hz).1
      simp only [μ']
      rw [List.getElem?_append_left (by rw [hl1]; exact hil), mrgMu1_get, Nat.zero_add, hz, Option.map_some, hf, hm]
    have killed : ∀ (i : Nat), findN sel i 0 = none → memN fr i = true → i < μ.length → μ'[i]? = some none := by
      intro i hf hm hil
      have hl1 : (mrgMu1 sel fr μ1 0 μ).length = μ.length := mrgMu1_len _ _ _ _ _
      simp only [μ']
      rw [List.getElem?_append_left (by rw [hl1]; exact hil), mrgMu1_get, Nat.zero_add, List.getElem?_eq_getElem hil, Option.map_some, hf, hm]
    have aside : ∀ (i : Nat), findN sel i 0 = none → memN fr i = false → memN (sel ++ fr) i = false := by
      intro i hf hm
      cases hc : memN (sel ++ fr) i with
      | false => rfl
      | true =>
        rcases List.mem_append.1 (memN_iff.1 hc) with hc | hc
        · obtain ⟨q, hq⟩ := List.mem_iff_getElem?.1 hc
          exact (findN_none hf q hq).elim
        · rw [memN_iff.2 hc] at hm; cases hm
    have framed : ∀ (i b : Nat), findN sel i 0 = none → memN fr i = false → μ[i]? = some (some b) → F1 b := by
      intro i b hf hm hb
      rw [← hF1]; exact .inr ⟨i, aside i hf hm, hb⟩
    have hown1 : ∀ b, b < w'.heap.size → ¬ Abs.own F1 μ1 b → ¬ Abs.own F μ' b := by
      intro b _ hn ho
      apply hn
      rcases ho with ho | ho
      · obtain ⟨i, hi⟩ := mem_of ho
        rcases get i _ hi with ⟨_, ⟨q, _, h2⟩ | ⟨_, _, h2⟩ | ⟨h1, h2, h3⟩⟩ | ⟨q, _, _, h2⟩
        · exact .inl (List.mem_of_getElem? h2)
        · cases h2
        · exact .inr (framed i b h1 h2 h3)
        · exact .inl (List.mem_of_getElem? h2)
      · exact .inr (by rw [← hF1]; exact .inl ho)
    have ht : ∀ t v, VT w' (Abs.own F1 μ1) t v → VT w' (Abs.own F μ') t v := fun t v ht => ht.mono (Nat.le_refl _) (fun _ _ _ => rfl) hown1
    have hsub2 : ∀ b, some b ∈ selMu μ2 sel → some b ∈ μ := by
      intro b hb
      obtain ⟨i, hi⟩ := mem_of (g2 b hb)
      rw [← hμ2] at hi
      exact List.mem_of_getElem? (hideMu_some hi).2
    have hselq : ∀ (q i : Nat) z, sel[q]? = some i → μ[i]? = some z → (selMu μ2 sel)[q]? = some z := by
      intro q i z h1 h2
      refine selMu_get h1 ?_
      rw [← hμ2]; exact hideMu_kept (hmem1 q i h1) h2
    have he : Ext w μ w' μ' :=
      { os := k4.os, tape := k4.tape, output := k4.output, size := k4.size
        blk := fun b hb hn => k4.blk b hb (fun h => hn (hsub2 b h))
        len := by simp [μ', mrgMu1_len]
        keep := fun i b hi => by
          have hil := (List.getElem?_eq_some_iff.1 hi).1
          cases hf : findN sel i 0 with
          | some q =>
            obtain ⟨_, hq⟩ := findN_some hf
            rw [Nat.sub_zero] at hq
            have hmv : mvN sel (lenL ob) q = i := by unfold mvN; rw [nth_eq, hq]
            rcases k4.keep q b (hselq q i _ hq hi) with h | h
            · exact .inl (by have := put q _ h; rwa [hmv] at this)
            · exact .inr (by have := put q _ h; rwa [hmv] at this)
          | none =>
            cases hm : memN fr i with
            | true => exact .inr (killed i hf hm hil)
            | false => exact .inl (kept i _ hf hm hi)
        dead := fun i hi => by
          have hil := (List.getElem?_eq_some_iff.1 hi).1
          cases hf : findN sel i 0 with
          | some q =>
            obtain ⟨_, hq⟩ := findN_some hf
            rw [Nat.sub_zero] at hq
            have hmv : mvN sel (lenL ob) q = i := by unfold mvN; rw [nth_eq, hq]
            have := put q _ (k4.dead q (hselq q i _ hq hi))
            rwa [hmv] at this
          | none =>
            cases hm : memN fr i with
            | true => exact killed i hf hm hil
            | false => exact kept i _ hf hm hi
        own := fun b hb => by
          obtain ⟨i, hi⟩ := mem_of hb
          have new : some b ∈ μ1 → some b ∈ μ ∨ w.heap.size ≤ b := fun h => by
            rcases k4.own b h with h | h
            · exact .inl (hsub2 b h)
            · exact .inr h
          rcases get i _ hi with ⟨_, ⟨q, _, h2⟩ | ⟨_, _, h2⟩ | ⟨h1, h2, h3⟩⟩ | ⟨q, _, _, h2⟩
          · exact new (List.mem_of_getElem? h2)
          · cases h2
          · exact .inl (List.mem_of_getElem? h3)
          · exact new (List.mem_of_getElem? h2) }
    -- the objects
    have oget : ∀ (q : Nat) y, o[q]? = some y → (mrg sel fr ob o)[mvN sel (lenL ob) q]? = some (mvO sel (lenL ob) y) := by
      intro q y hq
      unfold mvN mrg
      rw [nth_eq, appL_eq, mapL_eq, dropL_eq]
      cases hsq : sel[q]? with
      | some p =>
        have hpl : p < ob.length := by rw [← lenL_eq]; exact ltAll_get hlt q p hsq
        show (mrg1 sel fr (lenL ob) o 0 ob ++ _)[p]? = _
        rw [List.getElem?_append_left (by rw [mrg1_len]; exact hpl), mrg1_get, Nat.zero_add, List.getElem?_eq_getElem hpl, Option.map_some]
        cases hf : findN sel p 0 with
        | none => exact (findN_none hf q hsq).elim
        | some q' =>
          obtain ⟨_, hq'⟩ := findN_some hf
          rw [Nat.sub_zero] at hq'
          have := distinct_inj hd q q' p hsq hq'
          subst this
          simp [nth_eq, hq]
      | none =>
        rw [List.getElem?_eq_none_iff] at hsq
        show (mrg1 sel fr (lenL ob) o 0 ob ++ _)[lenL ob + (q - lenL sel)]? = _
        rw [lenL_eq, lenL_eq, List.getElem?_append_right (by rw [mrg1_len]; omega), mrg1_len, List.getElem?_map, List.getElem?_drop, show sel.length + (ob.length + (q - sel.length) - ob.length) = q by omega, hq]
        rfl
    have okept : ∀ (i : Nat) y, findN sel i 0 = none → memN fr i = false → ob[i]? = some y → (mrg sel fr ob o)[i]? = some y := by
      intro i y hf hm hy
      unfold mrg
      rw [appL_eq, List.getElem?_append_left (by rw [mrg1_len]; exact (List.getElem?_eq_some_iff.1 hy).1), mrg1_get, Nat.zero_add, hy, Option.map_some, hf, hm]
    have okilled : ∀ (i : Nat), findN sel i 0 = none → memN fr i = true → i < ob.length → (mrg sel fr ob o)[i]? = some .dead := by
      intro i hf hm hil
      unfold mrg
      rw [appL_eq, List.getElem?_append_left (by rw [mrg1_len]; exact hil), mrg1_get, Nat.zero_add, List.getElem?_eq_getElem hil, Option.map_some, hf, hm]
    have isSel : ∀ (q i : Nat), sel[q]? = some i → mvN sel (lenL ob) q = i := fun q i h => by unfold mvN; rw [nth_eq, h]
    have isNew : ∀ (q i : Nat), sel.length ≤ q → i = μ.length + (q - sel.length) → mvN sel (lenL ob) q = i := fun q i h1 h2 => by
      unfold mvN
      rw [nth_eq, List.getElem?_eq_none_iff.2 h1]
      show lenL ob + (q - lenL sel) = i
      rw [hnl, lenL_eq, h2]
    refine ⟨v, mvA sel (lenL ob) x, mrg sel fr ob o, μ', k1, k2.mv ht put, ⟨?_, ?_, ?_, ?_, ?_, ?_, ⟨fun b hb => ⟨(k3.gl.lt b hb).1, hown1 b (k3.gl.lt b hb).1 (k3.gl.lt b hb).2⟩, k3.gl.ok⟩⟩, he, hK⟩
    · simp only [μ', mrg, appL_eq, mapL_eq, dropL_eq, List.length_append, mrgMu1_len, mrg1_len, List.length_drop, List.length_map, lenL_eq, hs.len, k3.len]
    · intro i i' b h1 h2
      have fb : ∀ (i q : Nat), findN sel i 0 = none → memN fr i = false → μ[i]? = some (some b) → μ1[q]? = some (some b) → False := fun i q h1 h2 h3 h4 => (k3.frame b (framed i b h1 h2 h3)).2 (List.mem_of_getElem? h4)
      rcases get i _ h1 with ⟨_, ⟨q, a1, a2⟩ | ⟨_, _, a2⟩ | ⟨a1, a2, a3⟩⟩ | ⟨q, a0, a1, a2⟩ <;> rcases get i' _ h2 with ⟨_, ⟨q', b1, b2⟩ | ⟨_, _, b2⟩ | ⟨b1, b2, b3⟩⟩ | ⟨q', b0, b1, b2⟩
      all_goals first
        | (cases a2; done)
        | (cases b2; done)
        | exact (fb _ _ a1 a2 a3 b2).elim
        | exact (fb _ _ b1 b2 b3 a2).elim
        | exact hs.inj _ _ b a3 b3
        | (have hqq := k3.inj q q' b a2 b2
           subst hqq
           first
             | (rw [a1] at b1; exact Option.some.inj b1)
             | (have := (List.getElem?_eq_some_iff.1 a1).1; omega)
             | (have := (List.getElem?_eq_some_iff.1 b1).1; omega)
             | omega)
    · intro i b h1
      rcases get i _ h1 with ⟨_, ⟨q, a1, a2⟩ | ⟨_, _, a2⟩ | ⟨a1, a2, a3⟩⟩ | ⟨q, a0, a1, a2⟩
      · exact k3.lt q b a2
      · cases a2
      · exact Nat.lt_of_lt_of_le (hs.lt i b a3) k4.size
      · exact k3.lt q b a2
    · intro i h1
      have gn : ∀ y, gone y → gone (mvO sel (lenL ob) y) := fun y h => by cases y <;> exact h
      rcases get i _ h1 with ⟨hil, ⟨q, a1, a2⟩ | ⟨a1, a2, _⟩ | ⟨a1, a2, a3⟩⟩ | ⟨q, a0, a1, a2⟩
      · obtain ⟨y, y1, y2⟩ := k3.dead q a2
        have := oget q y y1
        rw [isSel q i a1] at this
        exact ⟨_, this, gn y y2⟩
      · exact ⟨.dead, okilled i a1 a2 (by rw [← hs.len]; exact hil), trivial⟩
      · obtain ⟨y, y1, y2⟩ := hs.dead i a3
        exact ⟨y, okept i y a1 a2 y1, y2⟩
      · obtain ⟨y, y1, y2⟩ := k3.dead q a2
        have := oget q y y1
        rw [isNew q i a0 a1] at this
        exact ⟨_, this, gn y y2⟩
    · intro b hb
      have hb1 : F1 b := by rw [← hF1]; exact .inl hb
      refine ⟨(k3.frame b hb1).1, fun hm => ?_⟩
      obtain ⟨i, hi⟩ := mem_of hm
      rcases get i _ hi with ⟨_, ⟨q, a1, a2⟩ | ⟨_, _, a2⟩ | ⟨a1, a2, a3⟩⟩ | ⟨q, a0, a1, a2⟩
      · exact (k3.frame b hb1).2 (List.mem_of_getElem? a2)
      · cases a2
      · exact (hs.frame b hb).2 (List.mem_of_getElem? a3)
      · exact (k3.frame b hb1).2 (List.mem_of_getElem? a2)
    · intro i b h1
      rcases get i _ h1 with ⟨_, ⟨q, a1, a2⟩ | ⟨_, _, a2⟩ | ⟨a1, a2, a3⟩⟩ | ⟨q, a0, a1, a2⟩
      · obtain ⟨y, y1, y2⟩ := k3.live q b a2
        have := oget q y y1
        rw [isSel q i a1] at this
        exact ⟨_, this, y2.mv ht put (hp y (List.mem_of_getElem? y1))⟩
      · cases a2
      · obtain ⟨y, y1, y2⟩ := hs.live i b a3
        refine ⟨y, okept i y a1 a2 y1, y2.ext he (k4.blk b (hs.lt i b a3) fun h => ?_)⟩
        exact (hs2.frame b (framed i b a1 a2 a3)).2 (g2 b h)
      · obtain ⟨y, y1, y2⟩ := k3.live q b a2
        have := oget q y y1
        rw [isNew q i a0 a1] at this
        exact ⟨_, this, y2.mv ht put (hp y (List.mem_of_getElem? y1))⟩
  unfold CallsX at hr ⊢
  split at hr
  · obtain ⟨h1, h2, h3, h4⟩ := hr
    exact ⟨h1, h2, h3, h4.mono post⟩
  · exact post _ _ hr
  · exact hr.elim

/-- What comes of a call, said anew: the first m objects keep their numbers, or die. -/
def Can (m : Nat) (x : AV) (o : List AO) (y : AV) (o' : List AO) : Prop := ∃ π, keeps (lenL o) m 0 π = true ∧ distinct π = true ∧ RV 0 π o x y ∧ ROs 0 π o π o'

theorem ACall.can {f : FuncId} {args : List AV} {ob : List AO} {K : AV → List AO → Prop} (h : ACall P f args ob (fun x o => ∃ y o', Can (lenL ob) x o y o' ∧ K y o')) : ACall P f args ob K := by
  refine ⟨fun w F μ cargs hv hs => ?_⟩
  have post : ∀ e w', (∃ v x ob' μ', e = Ending.returned v ∧ VR w' F μ' x v ∧ St w' F μ' ob' ∧ Ext w μ w' μ' ∧ ∃ y o', Can (lenL ob) x ob' y o' ∧ K y o') → ∃ v x ob' μ', e = Ending.returned v ∧ VR w' F μ' x v ∧ St w' F μ' ob' ∧ Ext w μ w' μ' ∧ K x ob' := by
    intro e w' ⟨v, x, o, μ', g1, g2, g3, g4, y, o', ⟨π, k1, k2, k3, k4⟩, k5⟩
    have hren := (Ren.of (m := lenL ob) (e := [x]) (e' := [y]) π k1 k2 (.cons k3 .nil) k4).run w' F μ' #[v] (by rw [lenL_eq, ← hs.len]; exact g4.len) ⟨rfl, fun i z u h1 h2 => by
      cases i with
      | zero => simp at h1 h2; subst h1; subst h2; exact g2
      | succ i => simp at h1⟩ g3
    obtain ⟨μ'', r1, r2, r3⟩ := hren
    refine ⟨v, y, o', μ'', g1, r1.2 0 y v rfl rfl, r2, ?_, k5⟩
    have hm : lenL ob = μ.length := by rw [lenL_eq, hs.len]
    rw [hm] at r3
    exact ((g4.toB (Nat.le_refl _)).trans r3).toExt rfl
  have hr := h.run w F μ cargs hv hs
  unfold CallsX at hr ⊢
  split at hr
  · obtain ⟨h1, h2, h3, h4⟩ := hr
    exact ⟨h1, h2, h3, h4.mono post⟩
  · exact post _ _ hr
  · exact hr.elim

end
end Go.Abs
