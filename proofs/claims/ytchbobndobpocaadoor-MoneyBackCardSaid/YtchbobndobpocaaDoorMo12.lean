/- Amounts' texts, read: the document's Parse. -/
import Derived.Test.YtchbobndobpocaaDoorMo11
import Derived.Test.YtchbobndobpocaaDoorMp8
namespace Go.Proofs.YtchbobndobpocaaDoor
open Go.Abs Go.IntWalk Go.Money
variable {P : Program} (hP : P = Tryd.prog)

theorem byteAt_is {l : List UInt8} {i : Int} {c : UInt8} (h : l[i.toNat]? = some c) : byteAt (bs l) i = (c.toNat : Int) := by
  simp [byteAt, h]
def foU (d : Bool) (l : List UInt8) : Int := (fo d l).2
def foO (d : Bool) (l : List UInt8) : Bool := (fo d l).1

theorem neq_u8 {z c : UInt8} {k : Int} (hc : (c.toNat : Int) = k) (h : ¬ z = c) : icmp .neq (z.toNat : Int) k = true := by
  simp only [icmp, bne_iff_ne]
  intro e
  exact h (UInt8.toNat_inj.1 (by omega))
theorem neq_u8f {z c : UInt8} {k : Int} (hc : (c.toNat : Int) = k) (h : ¬ z = c) : icmp .eql (z.toNat : Int) k = false := by
  simp only [icmp, beq_eq_false_iff_ne]
  intro e
  exact h (UInt8.toNat_inj.1 (by omega))
theorem tailTrick {G Q : Prop} (A : Prop) (a : (A → G) → Q) (b : A → G) : Q := a b
theorem key (p : Prop) [Decidable p] {Q : Prop} (a : p → Q) (b : ¬ p → Q) : Q := Decidable.byCases a b
include hP
set_option maxRecDepth 100000 in
set_option maxHeartbeats 16000000 in
theorem refParse_ret (l : List UInt8) (hl : l.length ≤ 200000000000000) : Ret P 17 [st l] (pair64 (parseV l) (parseE l)) := by
  obtain ⟨t, ht⟩ : ∃ t, bareB l = t := ⟨_, rfl⟩
  obtain ⟨d, hd⟩ : ∃ d, downB l = d := ⟨_, rfl⟩
  have htl : t.length ≤ l.length := by rw [← ht]; unfold bareB; split <;> simp
  have hnone : noneB l = (!shapeB t || (d && valD 0 (digs t) == 0)) := by unfold noneB; rw [ht, hd]
  have hpv : parseV l = if noneB l = true then 0 else if lim d < valD 0 (digs t) then 0 else if d = true then -(valD 0 (digs t) : Int) else (valD 0 (digs t) : Int) := by unfold parseV; rw [ht, hd]
  have hpe : parseE l = if noneB l = true then 14 else if lim d < valD 0 (digs t) then 5 else 0 := by unfold parseE; rw [ht, hd]
  have bad : shapeB t = false → RV 0 [] [] (.tup [AI .i64 (.lit 0), AI .i64 (.lit 14)]) (pair64 (parseV l) (parseE l)) := fun h => by
    have hn : noneB l = true := by rw [hnone, h]; rfl
    exact .tup' (.cons (.int (by rw [Th.den_th, hpv, if_pos hn]; rfl)) (.cons (.int (by rw [Th.den_th, hpe, if_pos hn]; rfl)) .nil))
  obtain ⟨pv, hpv0⟩ : ∃ v, parseV l = v := ⟨_, rfl⟩
  obtain ⟨pe, hpe0⟩ : ∃ v, parseE l = v := ⟨_, rfl⟩
  rw [hpv0] at hpv bad
  rw [hpe0] at hpe bad
  rw [hpv0, hpe0]
  refine e17 hP ?_
  cbv
  cases l with
  | nil =>
    have h0 : shapeB t = false := by rw [← ht]; rfl
    refine BrS.f rfl ?_
    cbv
    refine BrS.t rfl ?_
    cbv
    exact bad h0
  | cons c0 r =>
  obtain ⟨D, hD⟩ : ∃ D, digs t = D := ⟨_, rfl⟩
  let E0 : List AV := sp 124 [(4, st D), (5, AB (.th fun _ => d))]
  apply tailTrick ((shapeB t = true ↔ D.all isDig = true) ∧ D.length ≤ 200000000000000)
  case a =>
    intro tail
    refine BrS.t (by simp [icmp, bs_size]) ?_
    cbv
    refine MustS.mk (by simp [inRB, bs_size]) ?_
    cbv
    have hb0 : byteAt (bs (c0 :: r)) 0 = (c0.toNat : Int) := byteAt_is rfl
    refine BrS.mk (fun h1 => ?_) (fun h1 => ?_) <;> cbv
    case' refine_1 =>
      refine MustS.mk (by simp [okB, bs_size]; omega) ?_
      cbv
      have hdt : d = true ∧ t = r := by
        have h1 : (c0.toNat : Int) = 45 := by rw [hb0] at h1; exact beq_iff_eq.1 h1
        have h1 : c0.toNat = 45 := by omega
        have h2 : c0 = 45 := UInt8.toNat_inj.1 h1
        have h3 : downB (c0 :: r) = true := by rw [h2]; rfl
        exact ⟨by rw [← hd, h3], by rw [← ht, bareB, if_pos h3]; rfl⟩
      have he : ((bs (c0 :: r), (1 : Int)).fst.extract (bs (c0 :: r), (1 : Int)).snd.toNat (((bs (c0 :: r)).size : Int)).toNat) = bs t := by
        show (bs (c0 :: r)).extract 1 (((bs (c0 :: r)).size : Int)).toNat = _
        rw [bs_extract, bs_size, Int.toNat_natCast, hdt.2, List.drop_succ_cons, List.drop_zero, List.take_of_length_le (by rw [List.length_cons]; omega)]
      rw [he]
      have hd' : icmp .eql (byteAt (bs (c0 :: r)) 0) 45 = d := by rw [hdt.1]; exact h1
      rw [hd']
      clear he hd' h1 hdt hb0
    case' refine_2 =>
      have hdt : d = false ∧ t = c0 :: r := by
        have h1 : (c0.toNat : Int) ≠ 45 := by rw [hb0] at h1; exact beq_eq_false_iff_ne.1 h1
        have h1 : c0.toNat ≠ 45 := by omega
        have h3 : downB (c0 :: r) = false := by
          unfold downB; rw [beq_eq_false_iff_ne]
          intro e; simp at e; rw [e] at h1; exact h1 rfl
        exact ⟨by rw [← hd, h3], by rw [← ht, bareB, if_neg (by rw [h3]; simp)]⟩
      have hd' : icmp .eql (byteAt (bs (c0 :: r)) 0) 45 = d := by rw [hdt.1]; exact h1
      rw [hd', ← hdt.2]
      clear hd' h1 hdt hb0
    all_goals
      refine key (t.length < 4) (fun h4 => ?_) (fun h4 => ?_)
      · refine BrS.t (by simp only [icmp, decide_eq_true_eq]; show (((bs t).size : Int)) < 4; rw [bs_size]; omega) ?_
        cbv
        exact bad (by unfold shapeB; simp; intro h; omega)
      refine BrS.f (by simp only [icmp, decide_eq_false_iff_not]; show ¬ (((bs t).size : Int)) < 4; rw [bs_size]; omega) ?_
      cbv
      obtain ⟨N, hN, hNn, hN4⟩ : ∃ N : Int, ((bs t).size : Int) = N ∧ N.toNat = t.length ∧ 4 ≤ N := ⟨_, rfl, by rw [bs_size]; omega, by rw [bs_size]; omega⟩
      have hn3 : iop .sub .i64 ((bs t).size : Int) 3 = N - 3 := by rw [hN]; simp only [iop, wrap64]; omega
      have hn2 : iop .sub .i64 ((bs t).size : Int) 2 = N - 2 := by rw [hN]; simp only [iop, wrap64]; omega
      clear hN
      obtain ⟨z, hz⟩ : ∃ z, t[t.length - 3]? = some z := ⟨t[t.length - 3], List.getElem?_eq_getElem (by omega)⟩
      have hbz : byteAt (bs t) (iop .sub .i64 ((bs t).size : Int) 3) = (z.toNat : Int) := by rw [hn3]; exact byteAt_is (by rw [show (N - 3).toNat = t.length - 3 by omega]; exact hz)
      refine MustS.mk (by show inRB (bs t).size (iop .sub .i64 ((bs t).size : Int) 3) = true; rw [hn3, bs_size]; unfold inRB; simp only [Bool.and_eq_true, decide_eq_true_eq]; omega) ?_
      cbv
      refine key (z = 46) (fun h5 => ?_) (fun h5 => ?_)
      rotate_left
      · refine BrS.t (by show icmp .neq (byteAt (bs t) (iop .sub .i64 ((bs t).size : Int) 3)) 46 = true; rw [hbz]; exact neq_u8 rfl h5) ?_
        cbv
        exact bad (by unfold shapeB; rw [hz]; simp [h5])
      refine BrS.f (by show icmp .neq (byteAt (bs t) (iop .sub .i64 ((bs t).size : Int) 3)) 46 = false; rw [hbz, h5]; rfl) ?_
      cbv
      obtain ⟨z0, hz0⟩ : ∃ z, t[0]? = some z := ⟨t[0], List.getElem?_eq_getElem (by omega)⟩
      have hbz0 : byteAt (bs t) 0 = (z0.toNat : Int) := byteAt_is hz0
      have hhd : t.head? = some z0 := by rw [← hz0]; cases t <;> rfl
      refine MustS.mk (by show inRB (bs t).size 0 = true; rw [bs_size]; unfold inRB; simp only [Bool.and_eq_true, decide_eq_true_eq]; omega) ?_
      cbv
      refine key (z0 = 48 ∧ 4 < t.length) (fun h6 => ?_) (fun h6 => ?_)
      · refine BrS.t (by show icmp .eql (byteAt (bs t) 0) 48 = true; rw [hbz0, h6.1]; rfl) ?_
        cbv
        refine BrS.t (by simp only [icmp, decide_eq_true_eq]; show ((bs t).size : Int) > 4; rw [bs_size]; omega) ?_
        cbv
        exact bad (by unfold shapeB; rw [hhd, h6.1]; simp [h6.2])
      refine BrS.mk (fun h7 => ?_) (fun h7 => ?_) <;> cbv
      case' refine_1 =>
        have h48 : z0 = 48 := by
          have h7 : (z0.toNat : Int) = 48 := hbz0.symm.trans (beq_iff_eq.1 h7)
          exact UInt8.toNat_inj.1 (by have : (48 : UInt8).toNat = 48 := rfl; omega)
        refine BrS.f (by simp only [icmp, decide_eq_false_iff_not]; show ¬ ((bs t).size : Int) > 4; rw [bs_size]; have : ¬ 4 < t.length := fun h => h6 ⟨h48, h⟩; omega) ?_
        cbv
        clear h48
      all_goals
        clear h7
        have hcat : (bs (t.take (t.length - 3))).size + (bs (t.drop (t.length - 2))).size ≤ 9223372036854775807 := by rw [bs_size, bs_size, List.length_take, List.length_drop]; omega
        refine ADraw.ren (E := E0) (O := []) (ADraw.of (ty hP) (mo hP) rfl ?_) ?_
        · cbv
          iterate 4 (apply DOp.is; · intro J hJ; cbv; exact hJ
                     cbv)
          apply DOp.as _ (st (t.take (t.length - 3)))
          · intro J hJ
            cbv
            refine MustS.mk ?_ hJ
            show okB 0 (iop .sub .i64 ((bs t).size : Int) 3) ((bs t).size : Int) ((bs t).size : Int) = true
            rw [hn3, bs_size]; unfold okB; simp only [Bool.and_eq_true, decide_eq_true_eq]; omega
          · refine .str ?_
            show (bs t).extract 0 (iop .sub .i64 ((bs t).size : Int) 3).toNat = bs _
            rw [hn3, bs_extract, show (N - 3).toNat = t.length - 3 by omega]; simp
          cbv
          iterate 4 (apply DOp.is; · intro J hJ; cbv; exact hJ
                     cbv)
          apply DOp.as _ (st (t.drop (t.length - 2)))
          · intro J hJ
            cbv
            refine MustS.mk ?_ hJ
            show okB (iop .sub .i64 ((bs t).size : Int) 2) ((bs t).size : Int) ((bs t).size : Int) ((bs t).size : Int) = true
            rw [hn2, bs_size]; unfold okB; simp only [Bool.and_eq_true, decide_eq_true_eq]; omega
          · refine .str ?_
            show (bs t).extract (iop .sub .i64 ((bs t).size : Int) 2).toNat (((bs t).size : Int)).toNat = bs _
            rw [hn2, bs_extract, bs_size, show (N - 2).toNat = t.length - 2 by omega, Int.toNat_natCast, List.take_of_length_le (by rw [List.length_drop]; omega)]
          cbv
          apply DOp.as _ (st D)
          · intro J hJ
            cbv
            refine MustS.mk ?_ hJ
            exact decide_eq_true hcat
          · refine .str ?_
            show bs _ ++ bs _ = bs _
            rw [bs_append, ← hD]; rfl
          cbv
          apply DOp.is
          · intro J hJ; cbv; exact hJ
          cbv
          exact Ren.sp [] rfl rfl rfl (.cons rfl (.str rfl) (.cons rfl (.bool rfl) .nil)) .nil
        cbv
        have hshape : shapeB t = true ↔ D.all isDig = true := by
          rw [← hD]; unfold shapeB; rw [hz, h5, hhd]
          simp only [Bool.and_eq_true, decide_eq_true_eq, beq_self_eq_true, Bool.not_eq_true', Bool.and_eq_false_iff, decide_eq_false_iff_not]
          refine ⟨fun h => h.2, fun h => ⟨⟨⟨by omega, trivial⟩, ?_⟩, h⟩⟩
          by_cases h8 : 4 < t.length
          · left
            rw [beq_eq_false_iff_ne]
            intro e
            exact h6 ⟨by simpa using e, h8⟩
          · exact .inr h8
        exact tail ⟨hshape, by rw [← hD]; unfold digs; rw [List.length_append, List.length_take, List.length_drop]; omega⟩
  case b =>
   rintro ⟨hshape, hDl⟩
   rw [hD] at hnone hpv hpe
   obtain ⟨M, hM, hM0⟩ : ∃ M : Int, M.toNat = D.length ∧ 0 ≤ M ∧ M ≤ 200000000000000 := ⟨D.length, by omega, by omega, by omega⟩
   have hMs : ∀ {x : Int}, x = ((bs D).size : Int) → x = M := fun e => by rw [e, bs_size]; omega
   let E : Int → List AV := fun i => sp 124 [(4, st D), (5, AB (.th fun _ => d)), (6, AB (.th fun _ => someB (D.take i.toNat))), (7, AB (.th fun _ => foO d (D.take i.toNat))), (8, AI .u64 (.th fun _ => foU d (D.take i.toNat))), (9, AI .i64 (.th fun _ => i))]
   let EB : List AV := sp 124 [(2, AI .i64 (.lit 0)), (3, AI .i64 (.lit 14))]
   refine ACode.cut (fun x e o => (x = .exit 0 ∧ D.all isDig = true ∧ e = E M ∧ o = []) ∨ (x = .ret ∧ D.all isDig = false ∧ e = EB ∧ o = [])) ?loop ?rest
   case loop =>
     refine ACode.inv (ty hP) (fun n e o => ∃ i, 0 ≤ i ∧ i ≤ M ∧ (D.take i.toNat).all isDig = true ∧ n = (M - i).toNat ∧ e = E i ∧ o = []) M.toNat (E 0) []
       (Ren.sp [] rfl rfl rfl (.cons rfl (.pure rfl) (.cons rfl (.pure rfl) (.cons rfl (.bool rfl) (.cons rfl (.bool rfl) (.cons rfl (.int rfl) (.cons rfl (.int rfl) .nil)))))) .nil)
       ⟨0, by omega, by omega, by simp, by simp, rfl, rfl⟩ ?_
     rintro n e o ⟨i, i0, i1, i2, rfl, rfl, rfl⟩ J hJ
     cbv
     refine BrS.mk (fun k1 => ?_) (fun k1 => ?_) <;> cbv
     · have k1 : i < M := by rw [← hMs (x := ((bs D).size : Int)) rfl]; exact of_decide_eq_true k1
       obtain ⟨c, hc⟩ : ∃ c, D[i.toNat]? = some c := ⟨D[i.toNat]'(by omega), List.getElem?_eq_getElem (by omega)⟩
       obtain ⟨K, hK, hK0, hKn⟩ : ∃ K : Int, byteAt (bs D) i = K ∧ (0 ≤ K ∧ K < 256) ∧ K.toNat = c.toNat := ⟨_, byteAt_is hc, by have := c.toNat_lt; omega, by omega⟩
       have hKc : (c.toNat : Int) = K := by omega
       have htk : D.take (i + 1).toNat = D.take i.toNat ++ [c] := by rw [show (i + 1).toNat = i.toNat + 1 by omega, List.take_add_one, hc]; rfl
       have hS' : someB (D.take (i + 1).toNat) = (someB (D.take i.toNat) || (K != 48)) := by
         rw [htk, someB_snoc]
         congr 1
         rw [Bool.eq_iff_iff, bne_iff_ne, bne_iff_ne]
         constructor
         · intro h e; exact h (UInt8.toNat_inj.1 (by have : (48 : UInt8).toNat = 48 := rfl; omega))
         · rintro h rfl; exact h (by rw [← hKc]; rfl)
       have hO' : foO d (D.take (i + 1).toNat) = overB d (foO d (D.take i.toNat)) (foU d (D.take i.toNat)) K := by
         unfold foO foU; rw [htk, fo_snoc, hKc]
         split
         · rename_i h; exact h.symm
         · rename_i h; simpa using h
       have hU' : foU d (D.take (i + 1).toNat) = if overB d (foO d (D.take i.toNat)) (foU d (D.take i.toNat)) K = true then foU d (D.take i.toNat) else 10 * foU d (D.take i.toNat) + (K - 48) := by
         unfold foO foU; rw [htk, fo_snoc, hKc]
         split <;> rfl
       have hub : 0 ≤ foU d (D.take i.toNat) ∧ foU d (D.take i.toNat) ≤ 9223372036854775808 := by
         have := fo_facts d _ (D.take i.toNat) rfl i2
         exact ⟨this.2.2.1, this.2.2.2⟩
       have hdig : isDig c = true ↔ ¬ K < 48 ∧ ¬ 57 < K := by rw [isDig_iff]; omega
       clear hKc htk hKn
       refine MustS.mk (by show inRB (bs D).size i = true; rw [bs_size]; unfold inRB; simp only [Bool.and_eq_true, decide_eq_true_eq]; omega) ?_
       cbv
       rw [hK]
       generalize someB (D.take i.toNat) = sm at *
       generalize foO d (D.take i.toNat) = ov at *
       generalize foU d (D.take i.toNat) = u at *
       repeat' (refine BrS.mk (fun h => ?_) (fun h => ?_) <;> cbv)
       all_goals first
         | (have hbad : isDig c = false := by
              cases hcd : isDig c with
              | false => rfl
              | true => have := hdig.1 hcd; simp only [icmp, decide_eq_true_eq, gt_iff_lt] at *; omega
            exact ⟨_, _, Ren.sp [] rfl rfl rfl (.cons rfl (.pure rfl) (.cons rfl (.pure rfl) .nil)) .nil, .inr ⟨rfl, List.all_eq_false.2 ⟨c, List.mem_of_getElem? hc, by simp [hbad]⟩, rfl, rfl⟩⟩)
         | skip
       all_goals
         have hgood : isDig c = true := hdig.2 (by simp only [icmp, decide_eq_false_iff_not, gt_iff_lt] at *; omega)
         refine hJ (M - (i + 1)).toNat _ _ (E (i + 1)) [] (by omega) (Ren.sp [] rfl rfl rfl (.cons rfl (.pure rfl) (.cons rfl (.pure rfl) (.cons rfl (.bool ?_) (.cons rfl (.bool ?_) (.cons rfl (.int ?_) (.cons rfl (.int ?_) .nil)))))) .nil) ⟨i + 1, by omega, by omega, ?_, rfl, rfl, rfl⟩
         · rw [Th.den_th, hS']
           simp only [icmp, Th.den_lit, Th.den_th] at *
           simp_all
         · rw [Th.den_th, hO']
           clear hS' hU' hJ
           unfold overB
           simp only [icmp, Th.den_lit, Th.den_th, gt_iff_lt] at *
           simp_all
         · rw [Th.den_th, hU']
           clear hS' hO' hJ
           rw [Th.den_th]
           by_cases ho : overB d ov u K = true
           · refine Eq.trans ?_ (if_pos ho).symm
             first
             | rfl
             | (exfalso
                revert ho
                unfold overB
                simp only [icmp, Th.den_lit, Th.den_th, gt_iff_lt] at * <;> simp_all)
           · refine Eq.trans ?_ (if_neg ho).symm
             have hk := hdig.1 hgood
             have hu2 : u ≤ 922337203685477580 ∧ (u = 922337203685477580 → K ≤ 56) := by
               unfold overB at ho
               simp only [Bool.or_eq_true, Bool.and_eq_true, decide_eq_true_eq, not_or, not_and] at ho
               omega
             first
             | (simp only [Th.den_th, Th.den_lit, iop, wrapU, IntKind.wrap_u8]; omega)
             | (exfalso
                revert ho
                unfold overB
                simp only [icmp, Th.den_lit, Th.den_th, gt_iff_lt] at * <;> simp_all)
         · simp only [Th.den_th, iop, wrap64]; omega
         · rw [show (i + 1).toNat = i.toNat + 1 by omega, List.take_add_one, hc]; simp [i2, hgood]
     · have k1 : ¬ i < M := by rw [← hMs (x := ((bs D).size : Int)) rfl]; exact of_decide_eq_false k1
       obtain rfl : i = M := by omega
       exact ⟨_, _, Ren.sp [] rfl rfl rfl (.cons rfl (.pure rfl) (.cons rfl (.pure rfl) (.cons rfl (.pure rfl) (.cons rfl (.pure rfl) (.cons rfl (.pure rfl) (.cons rfl (.pure rfl) .nil)))))) .nil, .inl ⟨rfl, by rwa [hM, List.take_length] at i2, rfl, rfl⟩⟩
   case rest =>
     rintro x e o (⟨rfl, hall, rfl, rfl⟩ | ⟨rfl, hall, rfl, rfl⟩)
     · have hff := fo_facts d _ D rfl hall
       have hsz := someB_val hall
       have hsh := hshape.2 hall
       have hno : noneB (c0 :: r) = (d && valD 0 D == 0) := by rw [hnone, hsh]; rfl
       have e1 : someB (D.take M.toNat) = someB D := by rw [hM, List.take_length]
       have e2 : foO d (D.take M.toNat) = (fo d D).1 := by rw [hM, List.take_length]; rfl
       have e3 : foU d (D.take M.toNat) = (fo d D).2 := by rw [hM, List.take_length]; rfl
       obtain ⟨V, hV, hV0⟩ : ∃ V : Int, V = valD 0 D ∧ 0 ≤ V := ⟨_, rfl, by omega⟩
       obtain ⟨Lm, hL, hLd⟩ : ∃ Lm : Int, Lm = lim d ∧ Lm = (if d = true then 9223372036854775808 else 9223372036854775807) := ⟨_, rfl, by unfold lim; split <;> rfl⟩
       have hl1 : (lim d < valD 0 D ↔ Lm < V) := by omega
       have hl2 : (valD 0 D = 0 ↔ V = 0) := by omega
       have hpv2 : pv = if (d = true ∧ V = 0) then 0 else if Lm < V then 0 else if d = true then -V else V := by
         rw [hpv, hno, hV]
         simp only [Bool.and_eq_true, beq_iff_eq, hl1, hl2, ← hV]
       have hpe2 : pe = if (d = true ∧ V = 0) then 14 else if Lm < V then 5 else 0 := by
         rw [hpe, hno]
         simp only [Bool.and_eq_true, beq_iff_eq, hl1, hl2]
       have f1 : someB D = false ↔ V = 0 := hsz.trans hl2
       have f2 : (fo d D).1 = true ↔ Lm < V := hff.1.trans hl1
       have f3 : (fo d D).1 = false → (fo d D).2 = V := fun h => (hff.2.1 h).trans hV.symm
       have f4 := hff.2.2
       clear hpv hpe hno hsz hff hl1 hl2 hV hL bad hnone hshape hpv0 hpe0
       cbv
       rw [e1, e2, e3]
       clear e1 e2 e3
       generalize someB D = sm at *
       generalize (fo d D).1 = ov at *
       generalize (fo d D).2 = u at *
       cases d <;> cases sm <;> cases ov <;> (try cbv) <;> (repeat ((first | refine BrS.t rfl ?_ | refine BrS.f rfl ?_); cbv))
       all_goals
         simp only [Bool.false_eq_true, false_and, true_and, if_false, if_true, false_iff, true_iff, iff_false, iff_true, reduceCtorEq, forall_const, true_implies, false_implies] at f1 f2 f3 hLd hpv2 hpe2
         subst hpv2 hpe2
         refine .tup' (.cons (.int ?_) (.cons (.int ?_) .nil)) <;> simp only [Th.den_th, Th.den_lit]
       all_goals first
         | (repeat' split) <;> omega
         | (rw [iop, xor_all _ (by omega), wrapU, wrap64]; (repeat' split) <;> omega)
         | (rw [wrap64]; (repeat' split) <;> omega)
     · cbv
       exact bad (by cases hs : shapeB t with | false => rfl | true => rw [hshape.1 hs] at hall; cases hall)
end Go.Proofs.YtchbobndobpocaaDoor
