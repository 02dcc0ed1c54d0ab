/- Amounts' texts, read: the program's Parse. -/
import Derived.Test.YtchbobndobpocaaDoorMo10
import Derived.Test.YtchbobndobpocaaDoorMp7
namespace Go.Proofs.YtchbobndobpocaaDoor
open Go.Abs Go.IntWalk Go.Money
variable {P : Program} (hP : P = Tryd.prog)

abbrev st (l : List UInt8) : AV := AS (.th fun _ => bs l)
theorem not_dig {r : Int} (h : (!decide (48 ≤ r ∧ r ≤ 57)) = true) : ¬ (48 ≤ r ∧ r ≤ 57) := fun h' => by rw [decide_eq_true h'] at h; cases h
include hP
set_option maxHeartbeats 4000000 in
theorem cut_ret (t : List UInt8) (ht : t.length ≤ 9223372036854775806) : Ret P 44 [st t, AS (.lit ⟨#[46]⟩)] (.tup [st (cutW t), st (cutC t), AB (.th fun _ => cutIs t)]) := by
  obtain ⟨I, hI, hge, hlt⟩ : ∃ I : Int, Lib.indexByte t 46 = I ∧ -1 ≤ I ∧ (0 ≤ I → I.toNat < t.length) := ⟨_, rfl, Lib.indexByte_ge _ _, fun h => by
    obtain ⟨W, r, h1, _, h3⟩ := idx_split t h
    have := congrArg List.length h1
    simp at this
    omega⟩
  refine e44 hP ?_
  cbv
  refine e59 hP ?_
  cbv
  refine index1_call hP 46 rfl (.th fun _ => I) (by rw [Th.den_th, ← hI]; rfl) ?_
  cbv
  refine BrS.mk (fun h => ?_) (fun h => ?_) <;> cbv
  · have h0 : 0 ≤ I := by simpa [icmp] using h
    have hci : cutIs t = true := by unfold cutIs; rw [hI]; simpa using h0
    refine ADraw.of (ty hP) (mo hP) rfl ?_
    cbv
    iterate 2 (apply DOp.is; · intro J hJ; cbv; exact hJ
               cbv)
    apply DOp.as _ (st (cutW t))
    · intro J hJ
      cbv
      refine MustS.mk ?_ ?_
      · show okB 0 I ((bs t).size : Int) ((bs t).size : Int) = true
        rw [bs_size]; unfold okB; simp only [Bool.and_eq_true, decide_eq_true_eq]; omega
      · exact hJ
    · refine .str ?_
      show (bs t).extract 0 I.toNat = bs (cutW t)
      rw [bs_extract]; unfold cutW; rw [if_pos hci, hI]; simp
    cbv
    iterate 5 (apply DOp.is; · intro J hJ; cbv; exact hJ
               cbv)
    have hw : iop .add .i64 I 1 = I + 1 := by simp only [iop, wrap64]; omega
    apply DOp.as _ (st (cutC t))
    · intro J hJ
      cbv
      refine MustS.mk ?_ ?_
      · show okB (iop .add .i64 I 1) ((bs t).size : Int) ((bs t).size : Int) ((bs t).size : Int) = true
        rw [hw, bs_size]; unfold okB; simp only [Bool.and_eq_true, decide_eq_true_eq]; omega
      · exact hJ
    · refine .str ?_
      show (bs t).extract (iop .add .i64 I 1).toNat (((bs t).size : Int)).toNat = bs (cutC t)
      rw [hw, bs_extract, bs_size]; unfold cutC; rw [if_pos hci, hI, Int.toNat_natCast, show (I + 1).toNat = I.toNat + 1 by omega, List.take_of_length_le (by rw [List.length_drop]; omega)]
    cbv
    iterate 3 (apply DOp.is; · intro J hJ; cbv; exact hJ
               cbv)
    exact .tup' (.cons (.pure rfl) (.cons (.pure rfl) (.cons (.bool (by simp [hci])) .nil)))
  · have h0 : ¬ 0 ≤ I := by simpa [icmp] using h
    have hci : cutIs t = false := by unfold cutIs; rw [hI]; simpa using h0
    refine .tup' (.cons (.str ?_) (.cons (.str ?_) (.cons (.bool (by simp [hci])) .nil)))
    · simp [cutW, hci]
    · simp [cutC, hci]

theorem digit_ret (r : Int) : Ret P 45 [AI .i32 (.th fun _ => r)] (AB (.th fun _ => decide (48 ≤ r ∧ r ≤ 57))) := by
  refine e45 hP ?_
  cbv
  repeat' (refine BrS.mk (fun h => ?_) (fun h => ?_) <;> cbv)
  all_goals
    refine .bool ?_
    simp only [Th.den_th, Th.den_lit, icmp, ge_iff_le, decide_eq_true_eq, decide_eq_false_iff_not] at *
    first
    | (rw [decide_eq_decide]; omega)
    | (symm; rw [decide_eq_false_iff_not]; omega)

set_option maxHeartbeats 4000000 in
theorem shape_ret (t : List UInt8) (ht : t.length ≤ 9223372036854775806) : Ret P 36 [st t] (.tup [st (if shapeB t = true then digs t else []), AB (.th fun _ => shapeB t)]) := by
  have hcl : (cutW t).length + (cutC t).length ≤ t.length := by
    by_cases h : cutIs t = true
    · have := congrArg List.length (cut_at h); rw [List.length_append, List.length_cons] at this; omega
    · unfold cutW cutC; rw [if_neg h, if_neg h]; simp
  have hsc := shape_cut t
  have hdc := digs_cut (t := t)
  obtain ⟨W, hW⟩ : ∃ W, cutW t = W := ⟨_, rfl⟩
  obtain ⟨C, hC⟩ : ∃ C, cutC t = C := ⟨_, rfl⟩
  obtain ⟨w, hw, hw0⟩ : ∃ w : Int, w = W.length ∧ 0 ≤ w := ⟨_, rfl, by omega⟩
  have hcut := cut_ret hP t ht
  rw [hW, hC] at hcl hsc hcut hdc
  have fin0 : shapeB t = false → RV 0 [] [] (.tup [AS (.lit ⟨#[]⟩), AB (.lit false)]) (.tup [st (if shapeB t = true then digs t else []), AB (.th fun _ => shapeB t)]) := fun h =>
    .tup' (.cons (.str (by rw [Th.den_th, if_neg (by simp [h])]; rfl)) (.cons (.bool (by rw [Th.den_th, h]; rfl)) .nil))
  refine e36 hP ?_
  cbv
  refine hcut.call (.cons (.pure rfl) (.cons (.pure rfl) .nil)) rfl ?_
  cbv
  have nf : ¬ (cutIs t = true ∧ W ≠ [] ∧ C.length = 2 ∧ (W.head? = some 48 → W.length ≤ 1) ∧ (W ++ C).all isDig = true) → shapeB t = false := fun h => by
    cases hs : shapeB t with
    | false => rfl
    | true => exact absurd (hsc.1 hs) h
  refine BrS.mk (fun h1 => ?_) (fun h1 => ?_) <;> cbv
  · exact fin0 (nf fun h => by rw [h.1] at h1; cases h1)
  have h1 : cutIs t = true := by simpa using h1
  refine BrS.mk (fun h2 => ?_) (fun h2 => ?_) <;> cbv
  · exact fin0 (nf fun h => h.2.1 (by simpa [scmp] using h2))
  have h2 : W ≠ [] := by simpa [scmp] using h2
  refine BrS.mk (fun h3 => ?_) (fun h3 => ?_) <;> cbv
  · exact fin0 (nf fun h => by
      have h3 : ((bs C).size : Int) ≠ 2 := by simpa [icmp] using h3
      rw [bs_size] at h3; omega)
  have h3 : C.length = 2 := by
    have h3 : ((bs C).size : Int) = 2 := by simpa [icmp] using h3
    rw [bs_size] at h3; omega
  refine MustS.mk ?_ ?_
  · show inRB (bs W).size 0 = true
    have := List.length_pos_iff.2 h2
    rw [bs_size]; unfold inRB; simp only [Bool.and_eq_true, decide_eq_true_eq]; omega
  cbv
  have hd : ∀ (b : Bool), icmp .eql (byteAt (bs W) 0) 48 = b → (W.head? = some 48 ↔ b = true) := fun b hb => by
    cases W with
    | nil => exact absurd rfl h2
    | cons c W =>
      have e : byteAt (bs (c :: W)) 0 = (c.toNat : Int) := by simp [byteAt]
      rw [e] at hb
      rw [← hb]
      simp only [icmp, List.head?_cons, Option.some.injEq, beq_iff_eq]
      constructor
      · rintro rfl; rfl
      · intro h; apply UInt8.toNat_inj.1; have : (48 : UInt8).toNat = 48 := rfl; omega
  have key : ∀ {Q : Prop}, (W.head? = some 48 ∧ 1 < W.length → Q) → (¬ (W.head? = some 48 ∧ 1 < W.length) → Q) → Q := fun a b => Decidable.byCases a b
  have hw2 : (1 < ((bs W).size : Int)) ↔ 1 < W.length := by rw [bs_size]; omega
  have nz : ∀ {x : Int}, x = ((bs W).size : Int) → (1 < x ↔ 1 < W.length) := fun e => by rw [e]; exact hw2
  obtain ⟨L, hL, hLl⟩ : ∃ L, L = W ++ C ∧ L.length ≤ 9223372036854775806 := ⟨_, rfl, by rw [List.length_append]; omega⟩
  refine key (fun h4 => ?_) (fun h4 => ?_)
  · refine BrS.t ((hd _ rfl).1 h4.1) ?_
    cbv
    refine BrS.t (decide_eq_true ((nz rfl).2 h4.2)) ?_
    cbv
    exact fin0 (nf fun h => by have := h.2.2.2.1 h4.1; omega)
  have h4' : W.head? = some 48 → W.length ≤ 1 := fun h => by
    rcases Nat.lt_or_ge 1 W.length with h' | h'
    · exact absurd ⟨h, h'⟩ h4
    · exact h'
  let E : List AV := sp 49 [(4, st W), (5, st C), (39, .ref 0 0)]
  let EX : List AV := sp 49 [(4, st W), (5, st C)]
  let O : Nat → List AO := fun p => [.sit (.th fun _ => bs L) (.th fun _ => p)]
  let EB : List AV := sp 49 [(2, AS (.lit ⟨#[]⟩)), (3, AB (.lit false))]
  refine BrS.mk (fun hz => ?_) (fun hz => ?_) <;> cbv
  all_goals try (refine BrS.f (decide_eq_false fun h => by have := (nz rfl).1 h; have := h4' ((hd _ hz).2 rfl); omega) ?_; cbv)
  all_goals
    refine MustS.mk (decide_eq_true (by show (bs W).size + (bs C).size ≤ _; rw [bs_size, bs_size]; omega)) ?_
    cbv
    refine ACode.cut (fun x e o => (x = .exit 0 ∧ L.all isDig = true ∧ e = EX ∧ o = []) ∨ (x = .ret ∧ L.all isDig = false ∧ e = EB ∧ o = [])) ?loop ?rest
    case loop =>
      refine ACode.inv (ty hP) (fun n e o => ∃ p, p ≤ L.length ∧ (L.take p).all isDig = true ∧ n = L.length - p ∧ e = E ∧ o = O p) L.length E (O 0)
        (Ren.sp [0] rfl rfl rfl (.cons rfl (.pure rfl) (.cons rfl (.pure rfl) (.cons rfl (.ref (q := 0) rfl) .nil))) (.cons rfl (.sit (by rw [hL]; exact bs_append W C) rfl) .nil))
        ⟨0, by omega, by simp, by simp, rfl, rfl⟩ ?_
      rintro n e o ⟨p, p1, p2, rfl, rfl, rfl⟩ J hJ
      cbv
      refine BrS.mk (fun h5 => ?_) (fun h5 => ?_) <;> cbv
      · have h5 : p < L.length := by
          have : p < (bs L).size := by simpa [nextLt] using h5
          rwa [bs_size] at this
        obtain ⟨c, hc⟩ : ∃ c, L[p]? = some c := ⟨L[p], List.getElem?_eq_getElem h5⟩
        obtain ⟨r1, r2⟩ := rune_dig L p c hc
        refine (digit_ret hP (nextRune (bs L) p)).call (.cons (.pure rfl) .nil) rfl ?_
        cbv
        refine BrS.mk (fun h6 => ?_) (fun h6 => ?_) <;> cbv
        · have h6 : isDig c = false := by
            have h6 : ¬ (48 ≤ nextRune (bs L) p ∧ nextRune (bs L) p ≤ 57) := not_dig h6
            cases hcd : isDig c with
            | false => rfl
            | true => exact absurd (r1.2 hcd) h6
          refine ⟨_, _, Ren.sp [] rfl rfl rfl (.cons rfl (.pure rfl) (.cons rfl (.pure rfl) .nil)) .nil, .inr ⟨rfl, ?_, rfl, rfl⟩⟩
          rw [List.all_eq_false]
          exact ⟨c, List.mem_of_getElem? hc, by simp [h6]⟩
        · have h6 : isDig c = true := by
            have h6 : 48 ≤ nextRune (bs L) p ∧ nextRune (bs L) p ≤ 57 := by simpa using h6
            exact r1.1 h6
          refine hJ (L.length - (p + 1)) _ _ E (O (p + 1)) (by omega) (Ren.sp [0] rfl rfl rfl (.cons rfl (.pure rfl) (.cons rfl (.pure rfl) (.cons rfl (.ref (q := 0) rfl) .nil))) (.cons rfl (.sit rfl ?_) .nil)) ⟨p + 1, by omega, ?_, rfl, rfl, rfl⟩
          · show p + (Utf8.decode (bs L) p).2 = p + 1
            rw [r2 h6]
          · rw [List.take_add_one, hc]; simp [p2, h6]
      · have h5 : ¬ p < L.length := by
          have : ¬ p < (bs L).size := by simpa [nextLt] using h5
          rwa [bs_size] at this
        refine ⟨_, _, Ren.sp [] rfl rfl rfl (.cons rfl (.pure rfl) (.cons rfl (.pure rfl) .nil)) .nil, .inl ⟨rfl, ?_, rfl, rfl⟩⟩
        rwa [List.take_of_length_le (by omega)] at p2
    case rest =>
      rintro x e o (⟨rfl, hall, rfl, rfl⟩ | ⟨rfl, hall, rfl, rfl⟩)
      · have hs : shapeB t = true := hsc.2 ⟨h1, h2, h3, h4', by rw [← hL]; exact hall⟩
        cbv
        refine MustS.mk (decide_eq_true (by show (bs W).size + (bs C).size ≤ _; rw [bs_size, bs_size]; omega)) ?_
        cbv
        refine .tup' (.cons (.str ?_) (.cons (.bool (by rw [Th.den_th, hs]; rfl)) .nil))
        show bs W ++ bs C = bs _
        rw [if_pos hs, hdc hs, bs_append]
      · cbv
        exact fin0 (nf fun h => by rw [← hL, hall] at h; cases h.2.2.2.2)

theorem parseRange_call {a : Th ByteArray} (hs : a.den.size ≤ 281474976710656) (hx : Lib.parseIntB 64 a.den.data.toList = .range) {ob : List AO} {K : AV → List AO → Prop}
    (hk : ∀ (n : Th Int), K (.tup [AI .i64 n, .ifc 86 .junk]) ob) : ACall P 38 [AS a, AI .i64 (.lit 10), AI .i64 (.lit 64)] ob K := by
  subst hP
  refine ACall.kit (c := Tryd.f38.body.getD .skip) (vs := [.string a.den, .int .i64 10, .int .i64 64]) Tryd.func38 (by kernel_rfl) (by kernel_rfl) (by rfl) (fun w hw => ?_)
  obtain ⟨tp, p, hv⟩ := hw.2.2
  refine (Tryd.strconv_ParseInt_10_at64_range_var a.den hs hx tp p w hv).mono fun e w' ⟨N, h1, _, _, h2⟩ => ?_
  refine ⟨_, _, h1, h2, fun F μ => ?_, hk (.lit (Lib.intSat 64 a.den.data.toList))⟩
  refine .tup rfl fun i x v hx hv => ?_
  match i, hx, hv with
  | 0, hx, hv => cases hx; cases hv; exact .c .int
  | 1, hx, hv => cases hx; cases hv; exact .ifc .junk
  | i + 2, hx, hv => cases hx

set_option maxHeartbeats 4000000 in
theorem parse_ret (l : List UInt8) (hl : l.length ≤ 200000000000000) : Ret P 16 [st l] (pair64 (parseV l) (parseE l)) := by
  obtain ⟨t, ht⟩ : ∃ t, bareB l = t := ⟨_, rfl⟩
  obtain ⟨d, hd⟩ : ∃ d, downB l = d := ⟨_, rfl⟩
  have htl : t.length ≤ l.length := by rw [← ht]; unfold bareB; split <;> simp
  have htp : Lib.trimPrefix l [45] = t ∧ Lib.hasPrefix l [45] = d := by
    have hp : Lib.hasPrefix l [45] = downB l := by
      unfold Lib.hasPrefix downB
      cases l with
      | nil => rfl
      | cons c r =>
        simp only [List.isPrefixOf, List.head?_cons, Bool.and_true]
        rw [Bool.eq_iff_iff, beq_iff_eq, beq_iff_eq, Option.some.injEq]
        exact eq_comm
    refine ⟨?_, by rw [hp, hd]⟩
    rw [← ht]; unfold Lib.trimPrefix bareB; rw [hp]
    split
    · simp
    · rfl
  have hsh := shape_ret hP t (by omega)
  have hnone : noneB l = (!shapeB t || (d && valD 0 (digs t) == 0)) := by unfold noneB; rw [ht, hd]
  have hpv : parseV l = if noneB l = true then 0 else if lim d < valD 0 (digs t) then 0 else if d = true then -(valD 0 (digs t) : Int) else (valD 0 (digs t) : Int) := by unfold parseV; rw [ht, hd]
  have hpe : parseE l = if noneB l = true then 14 else if lim d < valD 0 (digs t) then 5 else 0 := by unfold parseE; rw [ht, hd]
  refine e16 hP ?_
  cbv
  refine cutPrefix_call hP (.th fun _ => bs t) (.th fun _ => d) (by rw [Th.den_th, bs_list]; show bs t = ⟨(Lib.trimPrefix l [45]).toArray⟩; rw [htp.1]) (by rw [Th.den_th, bs_list]; exact htp.2.symm) ?_
  cbv
  refine hsh.call (.cons (.pure rfl) .nil) rfl ?_
  cbv
  refine BrS.mk (fun h1 => ?_) (fun h1 => ?_) <;> cbv
  · have h1 : shapeB t = false := by simpa using h1
    have hn : noneB l = true := by rw [hnone, h1]; rfl
    exact .tup' (.cons (.int (by rw [Th.den_th, hpv, if_pos hn]; rfl)) (.cons (.int (by rw [Th.den_th, hpe, if_pos hn]; rfl)) .nil))
  have h1 : shapeB t = true := by simpa using h1
  have hdg : (digs t).all isDig = true ∧ digs t ≠ [] ∧ (digs t).length ≤ t.length := by
    obtain ⟨W, a, b, rfl, w0, w1, w2, w3, w4, w5⟩ := shapeB_iff.1 h1
    rw [w5]
    exact ⟨by simp [w1, w2, w3], by simp, by simp⟩
  obtain ⟨D, hD⟩ : ∃ D, digs t = D := ⟨_, rfl⟩
  rw [hD] at hdg hpv hpe hnone
  rw [if_pos h1, hD]
  have hvz := valD_zero D hdg.1
  have hvn : valD 0 D = 0 ↔ Lib.trimB D 48 = [] := by rw [hvz, trimB_nil]
  have hpos := parseInt_digs hdg.2.1 hdg.1
  have hneg := parseInt_neg hdg.2.1 hdg.1
  have hDl : D.length ≤ 200000000000000 := by omega
  refine BrS.mk (fun h2 => ?_) (fun h2 => ?_) <;> cbv
  · have h2 : d = true := h2
    subst h2
    refine trim1_call hP 48 rfl (by decide) (by show (bs D).size ≤ _; rw [bs_size]; omega) (.th fun _ => bs (Lib.trimB D 48)) (by rw [Th.den_th, Th.den_th, bs_list]) ?_
    cbv
    refine BrS.mk (fun h3 => ?_) (fun h3 => ?_) <;> cbv
    · have h3 : valD 0 D = 0 := hvn.2 (by simpa [scmp] using h3)
      have hn : noneB l = true := by rw [hnone, h3]; simp
      exact .tup' (.cons (.int (by rw [Th.den_th, hpv, if_pos hn]; rfl)) (.cons (.int (by rw [Th.den_th, hpe, if_pos hn]; rfl)) .nil))
    have h3 : valD 0 D ≠ 0 := fun h => by simp [scmp, hvn.1 h] at h3
    have hn : ¬ noneB l = true := by rw [hnone, h1]; simp [h3]
    refine BrS.t rfl ?_
    cbv
    refine MustS.mk (decide_eq_true (by show (bs [45]).size + (bs D).size ≤ _; rw [bs_size, bs_size]; simp only [List.length_cons, List.length_nil]; omega)) ?_
    cbv
    have hsz : (bs [45] ++ bs D).size ≤ 281474976710656 := by rw [bs_append, bs_size, List.length_append]; simp only [List.length_cons, List.length_nil]; omega
    by_cases h4 : valD 0 D ≤ lim true
    · refine parseOk_call hP (.th fun _ => -(valD 0 D : Int)) (by show (bs [45] ++ bs D).size ≤ _; exact Nat.le_trans hsz (by decide)) (by
        show Lib.parseIntB 64 (bs [45] ++ bs D).data.toList = _
        rw [bs_append, bs_list]; show Lib.parseIntB 64 (45 :: D) = _
        rw [hneg, if_pos h4]; rfl) ?_
      cbv
      exact .tup' (.cons (.int (by rw [Th.den_th, Th.den_th, hpv, if_neg hn, if_neg (by omega), if_pos rfl])) (.cons (.int (by rw [Th.den_th, hpe, if_neg hn, if_neg (by omega)]; rfl)) .nil))
    · refine parseRange_call hP (by show (bs [45] ++ bs D).size ≤ _; exact hsz) (by
        show Lib.parseIntB 64 (bs [45] ++ bs D).data.toList = _
        rw [bs_append, bs_list]; show Lib.parseIntB 64 (45 :: D) = _
        rw [hneg, if_neg h4]) (fun n => ?_)
      cbv
      exact .tup' (.cons (.int (by rw [Th.den_th, hpv, if_neg hn, if_pos (by omega)]; rfl)) (.cons (.int (by rw [Th.den_th, hpe, if_neg hn, if_pos (by omega)]; rfl)) .nil))
  · have h2 : d = false := h2
    subst h2
    have hn : ¬ noneB l = true := by rw [hnone, h1]; simp
    have hsz : (bs D).size ≤ 281474976710656 := by rw [bs_size]; omega
    refine BrS.f rfl ?_
    cbv
    by_cases h4 : valD 0 D ≤ lim false
    · refine parseOk_call hP (.th fun _ => (valD 0 D : Int)) (by show (bs D).size ≤ _; rw [bs_size]; omega) (by
        show Lib.parseIntB 64 (bs D).data.toList = _
        rw [bs_list, hpos, if_pos h4]; rfl) ?_
      cbv
      exact .tup' (.cons (.int (by rw [Th.den_th, Th.den_th, hpv, if_neg hn, if_neg (by omega)]; rfl)) (.cons (.int (by rw [Th.den_th, hpe, if_neg hn, if_neg (by omega)]; rfl)) .nil))
    · refine parseRange_call hP (by show (bs D).size ≤ _; exact hsz) (by
        show Lib.parseIntB 64 (bs D).data.toList = _
        rw [bs_list, hpos, if_neg h4]) (fun n => ?_)
      cbv
      exact .tup' (.cons (.int (by rw [Th.den_th, hpv, if_neg hn, if_pos (by omega)]; rfl)) (.cons (.int (by rw [Th.den_th, hpe, if_neg hn, if_pos (by omega)]; rfl)) .nil))
end Go.Proofs.YtchbobndobpocaaDoor
