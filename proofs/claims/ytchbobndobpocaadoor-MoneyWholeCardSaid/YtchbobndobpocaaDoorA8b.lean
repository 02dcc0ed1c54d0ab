/- The abstract machine, part 8b: slices of slices, capacities, new rows, clear, delete. -/
import Derived.Test.YtchbobndobpocaaDoorA8
import Derived.Laws.Slices
import Derived.Laws.MakeOwn
import Derived.Laws.RangeString
namespace Go.Abs
variable [Gl]
section
variable {P : Program} {δ : Nat → Option TD} {w : World} {F : Nat → Prop} {μ : Mu} {ob : List AO} {K : AV → List AO → Prop}

omit [Gl] in
theorem takeL_eq {α : Type} : ∀ (l : List α) (n : Nat), takeL l n = l.take n
  | _, 0 => by simp [takeL]
  | [], n + 1 => by simp [takeL]
  | a :: l, n + 1 => by simp [takeL, takeL_eq l n]

/-- A bound, as a value. -/
def BndR (w : World) (F : Nat → Prop) (μ : Mu) : Option AV → Option Value → Prop
  | none, none => True
  | some x, some v => VR w F μ x v
  | _, _ => False
omit [Gl] in
theorem bnd_some {o : Option AV} {v : Option Value} {d n : Th Int} (h : BndR w F μ o v) (hb : bnd o d = some n) : (o = none ∧ v = none ∧ n = d) ∨ ∃ k, v = some (.int k n.den) ∧ o.isSome = true := by
  cases o with
  | none => cases v <;> simp [BndR] at h; simp [bnd] at hb; exact .inl ⟨rfl, rfl, hb.symm⟩
  | some x =>
    cases v with
    | none => simp [BndR] at h
    | some v =>
      simp only [BndR] at h
      unfold bnd at hb
      split at hb
      · rename_i e; cases e
      · rename_i k m e
        cases e; cases hb
        exact .inr ⟨k, by rw [h.iE], rfl⟩
      · cases hb

omit [Gl] in
theorem okB_iff {l h m c : Int} (hh : okB l h m c = true) : 0 ≤ l ∧ l ≤ h ∧ h ≤ m ∧ m ≤ c := by simp [okB] at hh; omega

omit [Gl] in
theorem sliceBounds_run {isS : Bool} {len cap : Nat} {lo hi mx : Option AV} {vlo vhi vmx : Option Value} {l h m : Th Int} {dl dh dm : Th Int} (b1 : BndR w F μ lo vlo) (b2 : BndR w F μ hi vhi) (b3 : BndR w F μ mx vmx)
    (e1 : bnd lo dl = some l) (e2 : bnd hi dh = some h) (e3 : bnd mx dm = some m) (d1 : dl.den = 0) (d2 : dh.den = len) (d3 : dm.den = cap) (hx : (hi.isNone && mx.isSome) = false)
    (o1 : 0 ≤ l.den) (o2 : l.den ≤ h.den) (o3 : h.den ≤ m.den) (o4 : m.den ≤ cap) (w' : World) : (Instr.sliceBounds isS len cap vlo vhi vmx).run P w' = .ok (l.den.toNat, h.den.toNat, m.den.toNat) w' := by
  rcases bnd_some b1 e1 with ⟨_, rfl, rfl⟩ | ⟨k1, rfl, _⟩ <;> rcases bnd_some b2 e2 with ⟨hh, rfl, rfl⟩ | ⟨k2, rfl, hh⟩ <;> rcases bnd_some b3 e3 with ⟨hm, rfl, rfl⟩ | ⟨k3, rfl, hm⟩
  all_goals first
    | (exfalso; rw [hh] at hx; cases mx <;> simp at hm hx; done)
    | skip
  all_goals
    have p0 : 0 ≤ h.den := by omega
    have p1 : 0 ≤ m.den := by omega
    have p2 : h.den ≤ (cap : Int) := by omega
    have p3 : l.den ≤ (cap : Int) := by omega
    have p4 : h.den ≤ ((m.den.toNat : Nat) : Int) := by omega
    have p5 : l.den ≤ ((h.den.toNat : Nat) : Int) := by omega
    have p7 : ∀ n : Int, (n.toNat : Int) = max n 0 := fun n => by omega
    try simp only [Instr.sliceBounds, Sem.run_bind, run_sliceBound w' _ _ _ _ p0 p2, run_sliceBound w' _ _ _ _ p0 p4, run_sliceBound w' _ _ _ _ o1 p5, run_sliceBound w' _ _ _ _ p1 o4, Sem.run_pure, Result.andThen_ok]
  all_goals first
    | rfl
    | (refine congrArg (fun x => Result.ok x w') ?_
       refine Prod.ext ?_ (Prod.ext ?_ ?_) <;> simp only <;> omega)
    | (have p6 : l.den ≤ (len : Int) := by omega
       simp only [run_sliceBound w' _ _ _ _ o1 p6, Result.andThen_ok]
       refine congrArg (fun x => Result.ok x w') ?_
       refine Prod.ext ?_ (Prod.ext ?_ ?_) <;> simp only <;> omega)

omit [Gl] in
theorem sub_vsl {O : Nat → Prop} {k : Nat} {es : List (List T)} {p : Option Addr} {cap : Nat} (h : VT w O (.vsl k es) (.slice p es.length cap)) {l hh m s : Nat} (hs : s = k) (h1 : l ≤ hh) (h2 : hh ≤ es.length) (h3 : hh ≤ m) (h4 : m ≤ cap) :
    VT w O (.vsl k ((es.drop l).take (hh - l))) (sliced p l hh m s) := by
  subst hs
  unfold sliced
  generalize hv : Value.slice p es.length cap = v at h
  have hlen : ((es.drop l).take (hh - l)).length = hh - l := by simp; omega
  cases h with
  | @vsl _ _ b off _ c a1 a2 a3 a4 a5 a6 =>
    cases hv
    by_cases he : hh - l = 0
    · have : (es.drop l).take (hh - l) = [] := by rw [he]; simp
      rw [this, he]
      exact .vsl0 (fun h => by split at h <;> simp at h)
    · have hne : ¬ m = l := by omega
      rw [if_neg hne]
      simp only [Option.map_some, Addr.add_lit]
      have hfin : VT w O (.vsl s ((es.drop l).take (hh - l))) (.slice (some ⟨b, off + l * s, none⟩) ((es.drop l).take (hh - l)).length (m - l)) := ?_
      · rw [hlen] at hfin; exact hfin
      refine .vsl (fun i j => c (l + i) j) a1 a2 (by rw [hlen]; omega) (fun e he => a4 e (List.mem_of_mem_drop (List.mem_of_mem_take he))) (fun i j e x hi hj => ?_) (fun i j e x hi hj => ?_)
      · rw [List.getElem?_take] at hi
        split at hi
        · rw [List.getElem?_drop] at hi
          have e9 : off + l * s + (i * s + j) = off + ((l + i) * s + j) := by rw [Nat.add_mul]; omega
          rw [e9]; exact a5 (l + i) j e x hi hj
        · cases hi
      · rw [List.getElem?_take] at hi
        split at hi
        · rw [List.getElem?_drop] at hi; exact a6 (l + i) j e x hi hj
        · cases hi
  | vsl0 h0 =>
    cases hv
    simp at h2
    subst h2
    have : l = 0 := by omega
    subst this
    simp only [List.drop_nil, List.take_nil, Nat.sub_self, Nat.sub_zero]
    exact .vsl0 (fun h => by
      split at h
      · have := h0 h; omega
      · cases p with
        | none => have := h0 rfl; omega
        | some a => simp at h)

omit [Gl] in
theorem sliceT_vt {O : Nat → Prop} {k : Nat} {es : Th (List (List T))} {l h : Th Int} {v : Value} (hv : VT w O (.vsl k (rowsB es.den l.den h.den)) v) : VT w O (sliceT k es l h) v := by
  cases es <;> cases l <;> cases h
  case lit.lit.lit => simp only [sliceT, takeL_eq, dropL_eq]; exact hv
  all_goals exact .vslS rfl hv

omit [Gl] in
theorem aslice_sound (hty : TyOk P δ) {t : Nat} {x : AV} {v : Value} {lo hi mx : Option AV} {vlo vhi vmx : Option Value} (hv : VR w F μ x v) (b1 : BndR w F μ lo vlo) (b2 : BndR w F μ hi vhi) (b3 : BndR w F μ mx vmx) (h : aslice δ t x lo hi mx ob K) :
    DoneQ P (Instr.sliceAt t v vlo vhi vmx) w F μ ob K := by
  unfold aslice at h
  split at h
  · rename_i d hd
    split at h
    · rename_i hsh
      have hu := und_str hty hd hsh
      split at h
      · rename_i s
        split at h
        · rename_i l h' e1 e2
          obtain ⟨hm, hK⟩ := mustT_iff h
          clear h
          simp only [den_m3] at hm
          obtain ⟨o1, o2, o3, o4⟩ := okB_iff hm
          have hvm : vmx = none := by cases vmx <;> simp [BndR] at b3; rfl
          subst hvm
          refine .q (v := .string (s.den.extract l.den.toNat h'.den.toNat)) (fun w' _ => ?_) (VR.s' (by simp)) hK
          rw [hv.sE, run_sliceAt_string w' t _ _ _ _ hu]
          have hb := sliceBounds_run (P := P) (isS := false) (len := s.den.size) (cap := s.den.size) (mx := none) (vmx := none) (m := m1 (fun s : ByteArray => (s.size : Int)) s) (dm := m1 (fun s : ByteArray => (s.size : Int)) s) b1 b2 (by trivial) e1 e2 rfl rfl (by simp) (by simp) (by simp) o1 o2 (by simpa using o3) (by simp) w'
          simp [Instr.slice, run_underlying hu, hb]
        · exact h.elim
      · exact h.elim
    · rename_i e hsh
      have hu := und_slice hty hd hsh
      have hpe : P.elem t = e := by simp [Program.elem, hu]
      have hu' : P.underlying t = some (.slice (P.elem t)) := by rw [hpe]; exact hu
      split at h
      · rename_i ed hed
        obtain ⟨ie, q1, q2, _⟩ := size_of hty hed
        have run : ∀ {a : Option Addr} {len cap : Nat} {l h m dl dh dm : Th Int}, bnd lo dl = some l → bnd hi dh = some h → bnd mx dm = some m → dl.den = 0 → dh.den = len → (hi.isNone && mx.isSome) = false → (mx = none → m.den = cap) → (vmx = none → dm.den = cap ∨ mx.isSome = true) → dm.den ≤ cap →
            0 ≤ l.den → l.den ≤ h.den → h.den ≤ m.den → m.den ≤ cap → ∀ w', (Instr.sliceAt t (.slice a len cap) vlo vhi vmx).run P w' = .ok (sliced a l.den.toNat h.den.toNat m.den.toNat ed.size) w' := by
          intro a len cap l h m dl dh dm e1 e2 e3 d1 d2 hx hm1 _ _ o1 o2 o3 o4 w'
          rw [run_sliceAt_slice w' t _ _ _ _ hu', run_slice_any w' t a len cap hu']
          have hb : (Instr.sliceBounds true len cap vlo vhi vmx).run P w' = .ok (l.den.toNat, h.den.toNat, m.den.toNat) w' := by
            cases hmx : mx with
            | none =>
              subst hmx
              have hvm : vmx = none := by cases vmx <;> simp [BndR] at b3; rfl
              subst hvm
              exact sliceBounds_run (P := P) (dm := m) (m := m) (mx := none) (vmx := none) b1 b2 (by trivial) e1 e2 rfl d1 d2 (hm1 rfl) (by simp) o1 o2 o3 o4 w'
            | some y =>
              subst hmx
              cases vmx with
              | none => simp [BndR] at b3
              | some vy =>
                have e3' : bnd (some y) (.lit (cap : Int)) = some m := by
                  unfold bnd at e3 ⊢
                  split at e3 <;> simp_all
                exact sliceBounds_run (P := P) (dm := .lit (cap : Int)) (m := m) b1 b2 b3 e1 e2 e3' d1 d2 rfl hx o1 o2 o3 o4 w'
          rw [hb]
          simp [hpe, run_sizeOf' q1, q2]
        split at h
        · rename_i o k i len cap
          split at h
          · rename_i l h' m hk e1 e2 e3 hx
            have hk' : k = ed.size := by simpa using hk
            obtain ⟨hm, hK⟩ := mustT_iff h
            clear h
            simp only [den_m4, den_m1] at hm
            obtain ⟨o1, o2, o3, o4⟩ := okB_iff hm
            obtain ⟨a, hve, hl1, hl2, hl3⟩ := hv.slV
            have o4' : m.den ≤ (cap.den : Int) := o4
            have hmn : mx = none → m.den = cap.den := fun e => by rw [e] at e3; simp [bnd] at e3; rw [← e3]; simp
            have hr := run (a := a) (len := len.den) (cap := cap.den) e1 e2 e3 rfl (by simp) hx hmn (fun e => by
              cases mx with
              | none => left; simp
              | some y => exact .inr rfl) (by simp) o1 o2 o3 o4'
            refine .q (fun w' _ => by rw [hve]; exact hr w') ?_ hK
            unfold sliced
            have hoff : (m3 offB i l m).den = if m.den = l.den then i.den else i.den + l.den.toNat := by
              simp only [den_m3, offB]
              by_cases e : m.den = l.den <;> simp [e]
            have e5 : (m2 (fun l h => (h - l).toNat) l h').den = h'.den.toNat - l.den.toNat := by simp; omega
            have e6 : (m2 (fun l m => (m - l).toNat) l m).den = m.den.toNat - l.den.toNat := by simp; omega
            have hml : (m.den.toNat = l.den.toNat) ↔ m.den = l.den := by omega
            have hlen : (m2 (fun l h => (h - l).toNat) l h').den ≤ (m2 (fun l m => (m - l).toNat) l m).den := by rw [e5, e6]; omega
            have hcap : (m2 (fun l m => (m - l).toNat) l m).den ≤ 9223372036854775807 := by rw [e6]; omega
            rw [← e5, ← e6]
            rw [hve] at hv
            generalize hgv : Value.slice a len.den cap.den = gv at hv
            cases hv with
            | @sl _ _ _ _ _ b hb _ _ =>
              cases hgv
              have hval : (if m.den.toNat = l.den.toNat then some (⟨b, i.den * k, none⟩ : Addr) else (some (⟨b, i.den * k, none⟩ : Addr)).map (·.add (l.den.toNat * ed.size))) = some ⟨b, (m3 offB i l m).den * k, none⟩ := by
                rw [hoff]
                by_cases e : m.den = l.den
                · rw [if_pos (hml.2 e), if_pos e]
                · rw [if_neg (fun h => e (hml.1 h)), if_neg e, hk']; simp [Addr.add_lit, Nat.add_mul]
              rw [hval]
              exact .sl hb hlen hcap
            | @slD _ _ _ _ _ a' hb _ _ h0 =>
              cases hgv
              refine .slD hb hlen hcap (fun e => ?_)
              rw [e6]
              split at e
              · omega
              · cases a with
                | none => have := h0 rfl; omega
                | some a => simp at e
          · exact h.elim
        · rename_i k es
          split at h
          · rename_i l h' m hk e1 e2 e3 hx
            have hk' : k = ed.size := by simpa using hk
            obtain ⟨hm, hK⟩ := mustT_iff h
            clear h
            simp only [den_m4, Th.den_lit] at hm
            obtain ⟨o1, o2, o3, o4⟩ := okB_iff hm
            cases hv with
            | c hv =>
              obtain ⟨k2, p, cap, r1, r2, _, r3, r4, _⟩ := vsl_form (.inl ⟨_, _, rfl⟩) hv
              simp only [T.rows] at r1 r4
              have hlL : Int.ofNat (lenL es) = (es.length : Int) := by rw [lenL_eq]; rfl
              rw [hlL] at e2 e3 o4
              cases hmx : mx with
              | none =>
                subst hmx
                have hvm : vmx = none := by cases vmx <;> simp [BndR] at b3; rfl
                subst hvm
                simp [bnd] at e3
                subst e3
                have hr := run (a := p) (len := es.length) (cap := cap) (m := .lit (cap : Int)) (dm := .lit (cap : Int)) e1 e2 rfl rfl rfl hx (fun _ => rfl) (fun _ => .inl rfl) (by simp) o1 o2 (by simp at o3 ⊢; omega) (by simp)
                refine .q (fun w' _ => by rw [r1]; exact hr w') ?_ hK
                have hsub := sub_vsl (l := l.den.toNat) (hh := h'.den.toNat) (m := cap) (s := ed.size) (by rw [← r1]; exact hv) hk'.symm (by omega) (by simp at o3; omega) (by simp at o3; omega) (Nat.le_refl _)
                have e8 : (h'.den - l.den).toNat = h'.den.toNat - l.den.toNat := by omega
                simp only [Th.den_lit, Int.toNat_natCast]
                exact .c (sliceT_vt (by unfold rowsB; rw [Th.den_lit, e8]; exact hsub))
              | some y =>
                subst hmx
                have hr := run (a := p) (len := es.length) (cap := cap) e1 e2 e3 rfl rfl hx (fun e => by cases e) (fun _ => .inr rfl) (by simp; omega) o1 o2 o3 (by omega)
                refine .q (fun w' _ => by rw [r1]; exact hr w') ?_ hK
                have hsub := sub_vsl (l := l.den.toNat) (hh := h'.den.toNat) (m := m.den.toNat) (s := ed.size) (by rw [← r1]; exact hv) hk'.symm (by omega) (by omega) (by omega) (by omega)
                have e8 : (h'.den - l.den).toNat = h'.den.toNat - l.den.toNat := by omega
                exact .c (sliceT_vt (by unfold rowsB; rw [Th.den_lit, e8]; exact hsub))
          · exact h.elim
        · rename_i k f
          split at h
          · rename_i l h' m hk e1 e2 e3 hx
            have hk' : k = ed.size := by simpa using hk
            obtain ⟨hm, hK⟩ := mustT_iff h
            clear h
            simp only [den_m4, Th.den_th] at hm
            obtain ⟨o1, o2, o3, o4⟩ := okB_iff hm
            cases hv with
            | c hv =>
              obtain ⟨k2, p, cap, r1, _, r2, r3, r4, _⟩ := vsl_form (.inr ⟨_, _, rfl⟩) hv
              have hvs : VT w (own F μ) (.vsl k (T.vslS k f).rows) v := by
                cases hv with
                | vslS hf h => simp only [T.rows, hf]; exact h
                | vslN hf => simp only [T.rows, hf]; exact .vsl0 fun _ => rfl
              have e8 : (h'.den - l.den).toNat = h'.den.toNat - l.den.toNat := by omega
              have fin : ∀ {mm : Nat}, h'.den.toNat ≤ mm → mm ≤ cap → VR w F μ (.c (sliceT k (.th fun _ => (T.vslS k f).rows) l h')) (sliced p l.den.toNat h'.den.toNat mm ed.size) := by
                intro mm h1 h2
                have hsub := sub_vsl (l := l.den.toNat) (hh := h'.den.toNat) (m := mm) (s := ed.size) (by rw [← r1]; exact hvs) hk'.symm (by omega) (by omega) h1 h2
                exact .c (sliceT_vt (by unfold rowsB; rw [Th.den_th, e8]; exact hsub))
              cases hmx : mx with
              | none =>
                subst hmx
                have hvm : vmx = none := by cases vmx <;> simp [BndR] at b3; rfl
                subst hvm
                simp [bnd] at e3
                subst e3
                simp at o3 o4
                have hr := run (a := p) (len := (T.vslS k f).rows.length) (cap := cap) (m := .lit (cap : Int)) (dm := .lit (cap : Int)) e1 e2 rfl rfl rfl hx (fun _ => rfl) (fun _ => .inl rfl) (by simp) o1 o2 (by simp; omega) (by simp)
                refine .q (fun w' _ => by rw [r1]; exact hr w') ?_ hK
                simp only [Th.den_lit, Int.toNat_natCast]
                exact fin (by omega) (Nat.le_refl _)
              | some y =>
                subst hmx
                have hr := run (a := p) (len := (T.vslS k f).rows.length) (cap := cap) e1 e2 e3 rfl rfl hx (fun e => by cases e) (fun _ => .inr rfl) (by simp; omega) o1 o2 o3 (by omega)
                refine .q (fun w' _ => by rw [r1]; exact hr w') (fin (by omega) (by omega)) hK
          · exact h.elim
        · exact h.elim
      · exact h.elim
    · exact h.elim
  · exact h.elim

omit [Gl] in
theorem acap_sound (hty : TyOk P δ) {t : Nat} {x : AV} {v : Value} (hv : VR w F μ x v) (h : acap δ t x ob K) (ty : TypeId) : DoneQ P (Builtin.cap_ #[t] ty #[v]) w F μ ob K := by
  unfold acap at h
  split at h
  · rename_i d hd
    split at h
    · rename_i e o k i len cap hsh
      have hu := und_slice hty hd hsh
      have hpe : P.elem t = e := by simp [Program.elem, hu]
      obtain ⟨a, hve, _⟩ := hv.slV
      refine .q (v := .int .i64 (m1 Int.ofNat cap).den) (fun w' hw => ?_) (VR.i _ _) h
      rw [hve, run_cap_slice w' t ty a len.den cap.den (by rw [hpe]; exact hu)]
      simp [goInt]
    · exact h.elim
  · exact h.elim

omit [Gl] in
theorem zero_cells_one (w0 : World) (hty : TyOk P δ) {t : Nat} {d : TD} (hd : δ t = some d) (hz : d.zero ≠ []) : ∃ z, (∀ w, (zeroValue t).run P w = .ok z w) ∧ (∃ i, P.info? t = some i ∧ i.zero = some z ∧ i.size = d.size ∧ i.bytes = d.bytes) ∧ z.cells.size = d.size ∧ (zeroC d).length = d.size ∧
    (∀ (w : World) (F : Nat → Prop) (μ : Mu) (n j : Nat) x u, (List.replicate n (zeroC d)).flatten[j]? = some x → ((Array.range (n * d.size)).map (z.cells[· % z.cells.size]!))[j]? = some u → VR w F μ x u ∧ u.oneCell' = true) ∧ (∀ u ∈ z.cells, u.oneCell' = true) := by
  obtain ⟨z, z1, z2, z3, z4⟩ := zeroC_cells hty hd hz
  obtain ⟨ie, z', q1, q2, q3, q4, q5, _⟩ := zero_sound hty hd hz
  obtain ⟨ie', q1', q3', q6⟩ := size_of hty hd
  rw [q1] at q1'; cases q1'
  have hzz : z = z' := by
    have h1 := z1 w0
    simp [zeroValue, typeInfo, q1, q2] at h1
    exact h1.symm
  subst hzz
  have one : ∀ u ∈ z.cells, u.oneCell' = true := by
    intro u hu'
    obtain ⟨j, hj, rfl⟩ := List.getElem_of_mem (Array.mem_toList_iff.2 hu')
    have hj' : j < (zeroC d).length := by rw [← z2]; simpa using hj
    exact (z4 w0 (fun _ => False) [] j _ _ (List.getElem?_eq_getElem hj') (by simp at hj; simp [hj])).2
  refine ⟨z, z1, ⟨ie, q1, q2, q3, q6⟩, q4, z3, fun w F μ n j x u hx hu => ?_, one⟩
  have hfl : (List.replicate n (zeroC d)).flatten.length = n * d.size := by
    rw [length_flat d.size _ (fun e he => by rw [(List.mem_replicate.1 he).2]; exact z3)]; simp
  have hj : j < n * d.size := by rw [← hfl]; exact (List.getElem?_eq_some_iff.1 hx).1
  rw [flat_get d.size _ z3 n j hj] at hx
  simp [hj] at hu
  have hd0 : 0 < d.size := by
    rcases Nat.eq_zero_or_pos d.size with h | h
    · rw [h] at hj; simp at hj
    · exact h
  have hm : j % z.cells.size < z.cells.size := Nat.mod_lt _ (by omega)
  rw [getElem!_pos z.cells _ hm] at hu
  exact z4 w F μ (j % d.size) x u hx (by rw [← q4, Array.getElem?_eq_getElem hm, hu])

theorem amakeSlice_sound (hty : TyOk P δ) (hs : St w F μ ob) {t : Nat} {x y : AV} {vx vy : Value} (hx : VR w F μ x vx) (hy : VR w F μ y vy) (h : amakeSlice δ t x y ob K) : Done P (Instr.makeSlice t vx vy) w F μ K := by
  unfold amakeSlice at h
  split at h
  · rename_i d kn n kc c hd
    rw [hx.iE, hy.iE]
    split at h
    · rename_i e hsh
      have hu := und_slice hty hd hsh
      split at h
      · rename_i ed hed
        split at h
        · exact h.elim
        · rename_i z0 zs hz
          obtain ⟨hm, hK⟩ := mustT_iff h
          clear h
          simp only [den_m2, Bool.and_eq_true, decide_eq_true_eq] at hm
          obtain ⟨⟨⟨h0, h1⟩, h2⟩, h3⟩ := hm
          obtain ⟨z, _, ⟨ie, q1, q2, q3, q6⟩, q4, q5, q7, q8⟩ := zero_cells_one w hty hed (by rw [hz]; simp)
          have hr := run_make (P := P) w t e ie z hu q1 q2 kn kc n.den c.den h0 h1 (by rw [q6]; exact h2) h3
          have hrl : ∀ r ∈ List.replicate c.den.toNat (zeroC ed), r.length = ed.size := fun r hr => by rw [(List.mem_replicate.1 hr).2]; exact q5
          refine Done.of_alloc hs (o := .cells (madeCells z.cells (c.den.toNat * ie.size)) e) hr ?_ ?_ hK
          · intro w' μ' he hh
            refine .arr (madeCells z.cells (c.den.toNat * ie.size)) e hh (by simp [size_madeCells, q3]) (by simp) (by simpa using hrl) (fun i v hv => ?_) (fun i j e' x v hei hej hv => ?_)
            · simp only [madeCells, Array.getElem?_map, Option.map_eq_some_iff] at hv
              obtain ⟨q, hq, rfl⟩ := hv
              have hql := (Array.getElem?_eq_some_iff.1 hq).1
              have : 0 < z.cells.size := by
                rcases Nat.eq_zero_or_pos z.cells.size with h | h
                · rw [q3, ← q4, h] at hql; simp at hql
                · exact h
              have hmd : q % z.cells.size < z.cells.size := Nat.mod_lt _ this
              rw [getElem!_pos z.cells _ hmd]
              exact q8 _ (Array.getElem_mem hmd)
            · simp only [den_m1] at hei
              exact q7 w' F μ' c.den.toNat (i * ed.size + j) x v (get_flat ed.size _ hrl i j e' x hei hej) (by rw [q3] at hv; exact hv)
          · intro w' μ' _ hm
            have e1 : n.den.toNat = (m1 Int.toNat n).den := by simp
            have e2 : c.den.toNat = (m1 Int.toNat c).den := by simp
            rw [lenL_eq, e1, e2]
            have := VR.sl (w := w') (F := F) (k := ed.size) (i := .lit 0) (len := m1 Int.toNat n) (cap := m1 Int.toNat c) hm (by simp; omega) (by simp; omega)
            simpa using this
      · exact h.elim
    · exact h.elim
  · exact h.elim


omit [Gl] in
theorem clearRows_get (z : List AV) (es : List (List AV)) (i n j : Nat) : (clearRows z es i n)[j]? = if i ≤ j ∧ j < i + n ∧ j < es.length then some z else es[j]? := by
  unfold clearRows
  by_cases hi : i ≤ es.length
  · have h0 : (es.take i).length = i := by simp; omega
    rw [List.append_assoc]
    by_cases h1 : j < i
    · rw [List.getElem?_append_left (by omega), List.getElem?_take, if_pos h1, if_neg (by omega)]
    · rw [List.getElem?_append_right (by omega), h0]
      by_cases h2 : j - i < min n (es.length - i)
      · rw [List.getElem?_append_left (by simpa using h2), List.getElem?_replicate, if_pos h2, if_pos (by omega)]
      · rw [List.getElem?_append_right (by simpa using h2), List.length_replicate, List.getElem?_drop]
        by_cases h3 : i ≤ j ∧ j < i + n ∧ j < es.length
        · exfalso; omega
        · rw [if_neg h3]
          by_cases h4 : i + n ≤ es.length
          · congr 1; omega
          · rw [List.getElem?_eq_none (by omega), List.getElem?_eq_none (by omega)]
  · have e1 : es.take i = es := List.take_of_length_le (by omega)
    have e2 : es.length - i = 0 := by omega
    rw [e1, e2, List.drop_eq_nil_of_le (by omega)]
    simp
    omega

omit [Gl] in
theorem clear_none_run {t : TypeId} {a : Option Addr} {c : Nat} (ht : ∃ u, P.underlying t = some u) (ty : TypeId) : (Builtin.clear_ #[t] ty #[.slice a 0 c]).run P w = .ok (.tuple #[]) w := by
  obtain ⟨u, hu⟩ := ht
  cases a <;> simp [Builtin.clear_, run_underlying hu]

theorem anext_sound (hs : St w F μ ob) {x : AV} {v : Value} (hv : VR w F μ x v) (h : anext x ob K) (ty : TypeId) : Done P (Instr.next v true ty) w F μ K := by
  unfold anext at h
  split at h
  · rename_i o
    split at h
    · rename_i s pos hn
      obtain ⟨b, hb, hob⟩ := hs.box hn (fun g => g)
      cases hob with
      | sit h1 =>
      cases hv with
      | refD h0 => rw [h0] at hb; cases hb
      | ref h0 =>
        rw [h0] at hb; cases hb
        obtain ⟨ht, hf⟩ := brT_iff h
        simp only [den_m2, nextLt, decide_eq_true_eq, decide_eq_false_iff_not] at ht hf
        have hbl := hs.lt o b h0
        by_cases hp : pos.den < s.den.size
        · have hk := ht hp
          obtain ⟨g1, g2⟩ := hs.set h0 { w with heap := w.heap.setIfInBounds b (.stringIter s.den (nextPos s.den pos.den)) } (.sit s (m2 nextPos s pos)) (by simp)
            (fun b' hne => by simp only [Array.setIfInBounds]; split <;> simp [Ne.symm hne]) rfl rfl rfl
            (fun _ => .sit (by rw [den_m2]; simp [Array.setIfInBounds, hbl]))
          refine ⟨.tuple #[.bool true, goInt pos.den, .int .i32 (nextRune s.den pos.den)], _, _, μ, _, ?_, ?_, g1, g2, by rw [setL_eq] at hk; exact hk⟩
          · simp only [Instr.next, getObj, setObj, Sem.run_bind, Sem.run, h1, Result.andThen, hp, if_true, nextRune, nextPos]
            rfl
          · refine .tup rfl (fun i x v hx hv => ?_)
            match i with
            | 0 => simp at hx hv; subst hx; subst hv; exact .c (.bool (b := .lit true))
            | 1 => simp at hx hv; subst hx; subst hv; exact .c (by have := VT.int (w := { w with heap := w.heap.setIfInBounds b (.stringIter s.den (nextPos s.den pos.den)) }) (O := Abs.own F μ) (k := .i64) (n := m1 Int.ofNat pos); rw [den_m1] at this; exact this)
            | 2 => simp at hx hv; subst hx; subst hv; exact .c (by have := VT.int (w := { w with heap := w.heap.setIfInBounds b (.stringIter s.den (nextPos s.den pos.den)) }) (O := Abs.own F μ) (k := .i32) (n := m2 nextRune s pos); rw [den_m2] at this; exact this)
            | n + 3 => simp at hx
        · refine Done.here hs (v := .tuple #[.bool false]) ?_ (.tup rfl fun i x v hx hv => ?_) (hf hp)
          · simp [Instr.next, getObj, Sem.run, h1, hp]
          · match i with
            | 0 => simp at hx hv; subst hx; subst hv; exact .c (.bool (b := .lit false))
            | n + 1 => simp at hx
    · exact h.elim
  · exact h.elim

/-- An object said in other words. -/
theorem St.reword (hs : St w F μ ob) {o : Nat} {x y : AO} (hn : nth ob o = some x) (hg : gone x → gone y) (ho : ∀ b, OB w F μ b x → OB w F μ b y) : St w F μ (ob.set o y) := by
  rw [nth_eq] at hn
  have hl := (List.getElem?_eq_some_iff.1 hn).1
  refine ⟨by simp [hs.len], hs.inj, hs.lt, fun q hq => ?_, hs.frame, fun q b hq => ?_, hs.gl⟩
  · obtain ⟨z, y1, y2⟩ := hs.dead q hq
    by_cases e : o = q
    · subst e
      rw [hn] at y1; cases y1
      exact ⟨y, by rw [List.getElem?_set_self hl], hg y2⟩
    · exact ⟨z, by rw [List.getElem?_set_ne e]; exact y1, y2⟩
  · obtain ⟨z, y1, y2⟩ := hs.live q b hq
    by_cases e : o = q
    · subst e
      rw [hn] at y1; cases y1
      exact ⟨y, by rw [List.getElem?_set_self hl], ho b y2⟩
    · exact ⟨z, by rw [List.getElem?_set_ne e]; exact y1, y2⟩

theorem aclear_sound (hty : TyOk P δ) (hs : St w F μ ob) {t : Nat} {x : AV} {v : Value} (hv : VR w F μ x v) (h : aclear δ t x ob K) (ty : TypeId) : Done P (Builtin.clear_ #[t] ty #[v]) w F μ K := by
  have unit : ∀ {w : World} {μ : Mu}, VR w F μ AUnit (.tuple #[]) := .tup rfl (fun i x v h => by simp at h)
  unfold aclear at h
  split at h
  · rename_i d hd
    split at h
    · rename_i e hsh
      have hu := und_slice hty hd hsh
      split at h
      · rename_i ed hed
        split at h
        · rw [hv.litE]
          exact .here hs (clear_none_run (P := P) ⟨_, hu⟩ ty) unit h
        · exact h.elim
        · rename_i o k i len cap z0 zs hz
          split at h
          · rename_i k' es sz hn hk
            have hk' : k = ed.size := by simpa using hk
            split at h
            · exact h.elim
            · rename_i hkk
              have hkk' : k' = k := by simpa using hkk
              subst hkk'
              obtain ⟨hm, hK⟩ := mustT_iff h
              clear h
              simp only [den_m3, Nat.ble_eq] at hm
              obtain ⟨a, hve, hlc, _, h0a⟩ := hv.slV
              obtain ⟨z, z1, ⟨ie, q1, q2, q3, q6⟩, q4, q5, q7, q8⟩ := zero_cells_one w hty hed (by rw [hz]; simp)
              rw [setL_eq] at hK
              by_cases h0 : len.den = 0
              · -- nothing
                have he : (m3 (clearRows (zeroC ed)) es i len).den = es.den := by
                  rw [den_m3, h0]
                  apply List.ext_getElem?
                  intro j
                  rw [clearRows_get, if_neg (by omega)]
                have hsame : St w F μ (ob.set o (.arr k' (m3 (clearRows (zeroC ed)) es i len) sz)) := hs.reword hn (fun g => ⟨by rw [he]; exact g.1, g.2⟩) (fun b y2 => by
                  cases y2 with
                  | arr blk ety g1 g2 g3 g4 g6 g5 => exact .arr blk ety g1 g2 (by rw [he]; exact g3) (by rw [he]; exact g4) g6 (by rw [he]; exact g5))
                rw [hve, h0]
                exact .here hsame (clear_none_run (P := P) ⟨_, hu⟩ ty) unit hK
              · have hk0 : 0 < k' := by
                  rcases Nat.eq_zero_or_pos k' with hkz | hkz
                  · exfalso
                    obtain ⟨i', u', w1, w2, w3, _, w5, w6, w7⟩ := (hty _ ed hed).ok
                    have h5 := q4
                    have := (zero_sound hty hed (by rw [hz]; simp))
                    obtain ⟨_, _, _, _, _, _, hzl, _⟩ := this
                    rw [hz] at hzl
                    simp at hzl
                    omega
                  · exact hkz
                have hsz0 : 0 < sz.den := by
                  have : 0 < (i.den + len.den) * k' := Nat.mul_pos (by omega) hk0
                  omega
                obtain ⟨b, hb, hob⟩ := hs.box hn (fun g => by have := g.2; omega)
                obtain ⟨hve2, _, _⟩ := hv.slE hb
                cases hob with
                | arr blk ety g1 g2 g3 g4 g6 g5 =>
                  have hzl : (Builtin.zeroCells z.cells len.den).toList.length = len.den * k' := by
                    simp only [Array.length_toList, size_zeroCells, q4, hk']
                  have hfit : i.den * k' + (Builtin.zeroCells z.cells len.den).toList.length ≤ blk.size := by
                    rw [hzl, g2, ← Nat.add_mul]; exact hm
                  have hzone : ∀ u ∈ (Builtin.zeroCells z.cells len.den).toList, u.oneCell' = true := by
                    intro u hu'
                    simp only [Builtin.zeroCells, Array.toList_map, List.mem_map, Array.toList_range, List.mem_range] at hu'
                    obtain ⟨j, hj, rfl⟩ := hu'
                    have hmd : j % z.cells.size < z.cells.size := Nat.mod_lt _ (by omega)
                    rw [getElem!_pos z.cells _ hmd]
                    exact q8 _ (Array.getElem_mem hmd)
                  have hst := run_storeCells_at P b (i.den * k') ety (Builtin.zeroCells z.cells len.den).toList 0 blk w g1 (by simpa using hfit) hzone
                  simp only [Nat.add_zero] at hst
                  obtain ⟨n, hn'⟩ : ∃ n, len.den = n + 1 := ⟨len.den - 1, by omega⟩
                  have hrun : (Builtin.clear_ #[t] ty #[v]).run P w = .ok (.tuple #[]) (w.setRow b (blk.toList.take (i.den * k') ++ (Builtin.zeroCells z.cells len.den).toList ++ blk.toList.drop (i.den * k' + (Builtin.zeroCells z.cells len.den).toList.length)).toArray) := by
                    rw [hve2]
                    rw [hn'] at hst ⊢
                    simp only [Builtin.clear_, Sem.run_bind, run_underlying hu, Result.andThen_ok, z1, hst, Sem.run_pure]
                    simp [run_underlying hu, z1, hst]
                  obtain ⟨r1, r2⟩ := hs.set hb (w.setRow b (blk.toList.take (i.den * k') ++ (Builtin.zeroCells z.cells len.den).toList ++ blk.toList.drop (i.den * k' + (Builtin.zeroCells z.cells len.den).toList.length)).toArray) (.arr k' (m3 (clearRows (zeroC ed)) es i len) sz) (by simp)
                    (fun b' hb' => setRow_other w b b' _ hb') rfl rfl rfl (fun he => by
                      have hget : ∀ (j : Nat) u, (blk.toList.take (i.den * k') ++ (Builtin.zeroCells z.cells len.den).toList ++ blk.toList.drop (i.den * k' + (Builtin.zeroCells z.cells len.den).toList.length)).toArray[j]? = some u →
                          (i.den * k' ≤ j ∧ j < (i.den + len.den) * k' ∧ (Builtin.zeroCells z.cells len.den).toList[j - i.den * k']? = some u) ∨ ((j < i.den * k' ∨ (i.den + len.den) * k' ≤ j) ∧ blk[j]? = some u) := by
                        intro j u hu'
                        rw [List.getElem?_toArray, getElem?_splice blk.toList _ _ (by simpa using hfit), hzl] at hu'
                        rw [Nat.add_mul]
                        split at hu'
                        · exact .inr ⟨.inl (by assumption), by simpa using hu'⟩
                        · split at hu'
                          · exact .inl ⟨by omega, by omega, hu'⟩
                          · exact .inr ⟨.inr (by omega), by simpa using hu'⟩
                      have hcl : (m3 (clearRows (zeroC ed)) es i len).den.length = es.den.length := by
                        rw [den_m3]
                        have h1 : ∀ j, (clearRows (zeroC ed) es.den i.den len.den)[j]?.isSome = es.den[j]?.isSome := fun j => by
                          rw [clearRows_get]
                          split
                          · rename_i hc; rw [List.getElem?_eq_getElem hc.2.2]; rfl
                          · rfl
                        rcases Nat.lt_trichotomy (clearRows (zeroC ed) es.den i.den len.den).length es.den.length with hl | hl | hl
                        · have := h1 (clearRows (zeroC ed) es.den i.den len.den).length
                          rw [List.getElem?_eq_none (Nat.le_refl _), List.getElem?_eq_getElem hl] at this; cases this
                        · exact hl
                        · have := h1 es.den.length
                          rw [List.getElem?_eq_none (Nat.le_refl es.den.length), List.getElem?_eq_getElem hl] at this; cases this
                      refine .arr _ ety (setRow_heap w b blk _ ety _ g1) ?_ ?_ ?_ ?_ ?_
                      · simp only [List.size_toArray, List.length_append, hzl, List.length_take, List.length_drop, Array.length_toList]
                        rw [hzl] at hfit
                        omega
                      · rw [hcl]; exact g3
                      · intro e hem
                        obtain ⟨j, hj⟩ := List.mem_iff_getElem?.1 hem
                        rw [den_m3, clearRows_get] at hj
                        split at hj
                        · cases hj; rw [hk']; exact q5
                        · exact g4 e (List.mem_of_getElem? hj)
                      · intro j u hu'
                        rcases hget j u hu' with ⟨_, _, h3⟩ | ⟨_, h3⟩
                        · exact hzone u (List.mem_of_getElem? h3)
                        · exact g6 j u h3
                      · intro r j e x u hr hj hu'
                        rw [den_m3, clearRows_get] at hr
                        have hel : e.length = k' := by
                          split at hr
                          · cases hr; rw [hk']; exact q5
                          · exact g4 e (List.mem_of_getElem? hr)
                        have hjk : j < k' := by rw [← hel]; exact (List.getElem?_eq_some_iff.1 hj).1
                        split at hr
                        · rename_i hc
                          cases hr
                          have l1 : i.den * k' ≤ r * k' := Nat.mul_le_mul_right _ hc.1
                          have l2 : (r + 1) * k' ≤ (i.den + len.den) * k' := Nat.mul_le_mul_right _ hc.2.1
                          rw [Nat.add_mul, Nat.one_mul] at l2
                          rcases hget _ u hu' with ⟨_, _, h3⟩ | ⟨h2, h3⟩
                          · have hpos : r * k' + j - i.den * k' = (r - i.den) * k' + j := by rw [Nat.sub_mul]; omega
                            rw [hpos, Array.getElem?_toList] at h3
                            have hrl : ∀ e ∈ List.replicate len.den (zeroC ed), e.length = k' := fun e he => by rw [(List.mem_replicate.1 he).2, hk']; exact q5
                            refine (q7 _ F μ len.den ((r - i.den) * k' + j) x u (get_flat k' _ hrl (r - i.den) j (zeroC ed) x (by rw [List.getElem?_replicate, if_pos (by omega)]) hj) ?_)
                            rw [← h3]; congr 1; simp only [Builtin.zeroCells, q4]
                          · omega
                        · rename_i hc
                          have hrl : r < es.den.length := (List.getElem?_eq_some_iff.1 hr).1
                          have hout : r < i.den ∨ i.den + len.den ≤ r := by omega
                          rcases hget _ u hu' with ⟨h1, h2, _⟩ | ⟨_, h3⟩
                          · exfalso
                            rcases hout with ho | ho
                            · have : (r + 1) * k' ≤ i.den * k' := Nat.mul_le_mul_right _ ho
                              rw [Nat.add_mul, Nat.one_mul] at this; omega
                            · have : (i.den + len.den) * k' ≤ r * k' := Nat.mul_le_mul_right _ ho
                              omega
                          · have := g5 r j e x u hr hj h3
                            exact ⟨this.1.ext he, this.2⟩)
                  exact ⟨_, _, _, _, _, hrun, unit, r1, r2, hK⟩
          · exact h.elim
        · exact h.elim
      · exact h.elim
    · rename_i hsh
      have hu : ∃ u, P.underlying t = some u := by obtain ⟨u, hu, _⟩ := sh_und hty hd; exact ⟨u, hu⟩
      obtain ⟨u, hu⟩ := hu
      split at h
      · rename_i o
        split at h
        · rename_i es hes
          obtain ⟨b, hb, hob⟩ := hs.box hes (by simp)
          have hve := hv.mpE hb
          cases hob with
          | map ents clock g1 g2 g3 =>
            have hlt : b < w.heap.size := (Array.getElem?_eq_some_iff.1 g1).1
            obtain ⟨r1, r2⟩ := hs.set hb { w with heap := w.heap.setIfInBounds b (.map #[] clock) } (.map []) (by simp) (fun b' hb' => by simp [Array.getElem?_setIfInBounds_ne (Ne.symm hb')]) rfl rfl rfl (fun _ =>
              .map #[] clock (by simp [hlt]) rfl fun i x v hx _ => by simp at hx)
            rw [setL_eq] at h
            refine ⟨.tuple #[], _, AUnit, μ, _, ?_, unit, r1, r2, h⟩
            rw [hve]
            simp [Builtin.clear_, run_underlying hu, getObj, setObj, Sem.run, g1]
        · exact h.elim
      · rw [hv.litE]
        exact .here hs (by simp [Builtin.clear_, run_underlying hu]) unit h
      · exact h.elim
    · exact h.elim
  · exact h.elim
end
end Go.Abs
