/- Shares: the program's. -/
import Derived.Test.YtchbobndobpocaaDoorMo14
import Derived.Test.YtchbobndobpocaaDoorMo15
import Derived.Test.YtchbobndobpocaaDoorMo9r
import Derived.Test.YtchbobndobpocaaDoorMp10
namespace Go.Proofs.YtchbobndobpocaaDoor
open Go.Abs Go.IntWalk Go.Money
variable {P : Program} (hP : P = Tryd.prog)

abbrev shY (T : Int) (ws : List Int) : AV := .tup [list64 (shareV T ws), AI .i64 (.th fun _ => shareE T ws)]
theorem hi_lt {T w S hi lo : Int} (h : T * w = 18446744073709551616 * hi + lo) (hl : 0 ≤ lo) (hT : 0 ≤ T ∧ T ≤ 9223372036854775807) (hw : 0 ≤ w ∧ w ≤ S) (hS : 0 < S) : hi < S := by
  have h1 : T * w ≤ 9223372036854775807 * S := Int.mul_le_mul hT.2 hw.2 hw.1 (by omega)
  omega

include hP
set_option maxRecDepth 100000 in
set_option maxHeartbeats 8000000 in
theorem share_ret (T : Int) (ws : List Int) (hT64 : I64 T) (hw64 : All64 ws) (hlen : ws.length ≤ 1000000000000000) :
    Ret P 12 [AI .i64 (.th fun _ => T), list64 ws] (shY T ws) := by
  obtain ⟨R, hR, hR0, hR1⟩ : ∃ R : Int, R = (ws.length : Int) ∧ 0 ≤ R ∧ R ≤ 1000000000000000 := ⟨_, rfl, by omega, by omega⟩
  have hr : ((Abs.T.vslS 1 fun _ => Abs.T.vsl 1 (rows64 ws)).rows.length : Int) = R := by rw [rows_len64, hR]
  have hRn : R.toNat = ws.length := by omega
  have bad : ∀ (e : Int), shareE T ws = e → e ≠ 0 → RV 0 [] [] (.tup [.c (.lit (.slice none 0 0)), AI .i64 (.lit e)]) (shY T ws) := fun e h h0 =>
    .tup' (.cons (.c (.hideE (by show Abs.T.vsl 1 (rows64 (shareV T ws)) = _; unfold shareV; rw [if_neg (by omega)]; rfl))) (.cons (.int (by rw [Th.den_th, h]; rfl)) .nil))
  refine e12 hP ?_
  cbv
  refine BrS.mk (fun h => ?_) (fun h => ?_) <;> cbv
  · have h : 4096 < R := by rw [← hr]; simpa [icmp] using h
    exact bad 3 (by unfold shareE; rw [if_pos (by omega)]) (by decide)
  have h4 : R ≤ 4096 := by
    have h : ¬ 4096 < R := by rw [← hr]; simpa [icmp] using h
    omega
  have h4n : ¬ ws.length > 4096 := by omega
  let E : Int → List AV := fun i => sp 115 [(0, AI .i64 (.th fun _ => T)), (1, list64 ws), (6, AB (.th fun _ => icmp .geq T 0)), (26, list64 ws), (27, AI .i64 (.th fun _ => R)), (28, AI .i64 (.th fun _ => i))]
  let EB : List AV := sp 115 [(4, .c (.lit (.slice none 0 0))), (5, AI .i64 (.lit 2))]
  refine ACode.cut (fun x e o => (x = .exit 0 ∧ (∀ w ∈ ws, 0 ≤ w) ∧ e = E R ∧ o = []) ∨ (x = .ret ∧ (∃ w ∈ ws, w < 0) ∧ e = EB ∧ o = [])) ?loop ?rest
  case loop =>
    refine ACode.inv (ty hP) (fun n e o => ∃ i, 0 ≤ i ∧ i ≤ R ∧ (∀ w ∈ ws.take i.toNat, 0 ≤ w) ∧ n = (R - i).toNat ∧ e = E i ∧ o = []) R.toNat (E 0) []
      (Ren.sp [] rfl rfl rfl (.cons rfl (.pure rfl) (.cons rfl (.pure rfl) (.cons rfl (.pure rfl) (.cons rfl (.pure rfl) (.cons rfl (.int hr) (.cons rfl (.int rfl) .nil)))))) .nil)
      ⟨0, by omega, by omega, by simp, by simp, rfl, rfl⟩ ?_
    rintro n e o ⟨i, i0, i1, i2, rfl, rfl, rfl⟩ J hJ
    cbv
    refine BrS.mk (fun k1 => ?_) (fun k1 => ?_) <;> cbv
    · have k1 : i < R := by simpa [icmp] using k1
      obtain ⟨w, hw, hww⟩ := get64 hw64 hR i0 k1
      refine NthS.mk _ i0 (rows64_get ws _ w hw) ?_
      cbv
      refine BrS.mk (fun k2 => ?_) (fun k2 => ?_) <;> cbv
      · have k2 : w < 0 := by simpa [icmp] using k2
        exact ⟨_, _, Ren.sp [] rfl rfl rfl (.cons rfl (.pure rfl) (.cons rfl (.pure rfl) .nil)) .nil, .inr ⟨rfl, ⟨w, List.mem_of_getElem? hw, k2⟩, rfl, rfl⟩⟩
      · have k2 : ¬ w < 0 := by simpa [icmp] using k2
        refine hJ (R - (i + 1)).toNat _ _ (E (i + 1)) [] (by omega) (Ren.sp [] rfl rfl rfl (.cons rfl (.pure rfl) (.cons rfl (.pure rfl) (.cons rfl (.pure rfl) (.cons rfl (.pure rfl) (.cons rfl (.pure rfl) (.cons rfl (.int ?_) .nil)))))) .nil) ⟨i + 1, by omega, by omega, ?_, rfl, rfl, rfl⟩
        · simp only [Th.den_th, iop, wrap64]; omega
        · rw [show (i + 1).toNat = i.toNat + 1 by omega, List.take_add_one, hw]
          intro x hx
          rcases List.mem_append.1 hx with hx | hx
          · exact i2 x hx
          · simp at hx; omega
    · have k1 : ¬ i < R := by simpa [icmp] using k1
      obtain rfl : i = R := by omega
      exact ⟨_, _, Ren.sp [] rfl rfl rfl (.cons rfl (.pure rfl) (.cons rfl (.pure rfl) (.cons rfl (.pure rfl) (.cons rfl (.pure rfl) (.cons rfl (.pure rfl) (.cons rfl (.pure rfl) .nil)))))) .nil, .inl ⟨rfl, by rwa [hRn, List.take_length] at i2, rfl, rfl⟩⟩
  case rest =>
  rintro x e o (⟨rfl, hpos, rfl, rfl⟩ | ⟨rfl, hneg, rfl, rfl⟩)
  rotate_left
  · cbv
    exact bad 2 (by unfold shareE; rw [if_neg h4n, if_pos hneg]) (by decide)
  have hnn : ¬ ∃ w ∈ ws, w < 0 := fun ⟨w, hw, h⟩ => by have := hpos w hw; omega
  have hS0 := sum_nonneg ws hpos
  have hle := le_sum ws hpos
  have hsum := sum_ret hP ws hw64 (by omega)
  have hE : shareE T ws = if T < 0 ∨ ws.sum = 0 then 2 else if 9223372036854775807 < ws.sum then 5 else 0 := by unfold shareE; rw [if_neg h4n, if_neg hnn]
  obtain ⟨S, hS⟩ : ∃ S, ws.sum = S := ⟨_, rfl⟩
  cbv
  refine hsum.call (.cons (.pure rfl) .nil) rfl ?_
  rw [hS] at hE hS0 hle ⊢
  cbv
  by_cases c1 : T < 0
  · refine BrS.t (by simp [icmp]; omega) ?_
    cbv
    exact bad 2 (by rw [hE, if_pos (.inl c1)]) (by decide)
  refine BrS.f (by simp [icmp]; omega) ?_
  cbv
  by_cases c2 : S ≤ 9223372036854775807
  rotate_left
  · refine BrS.f (decide_eq_false (by omega)) ?_
    cbv
    refine BrS.t (by simp; omega) ?_
    cbv
    exact bad 5 (by rw [hE, if_neg (by omega), if_pos (by omega)]) (by decide)
  have hSw : (S + 9223372036854775808) % 18446744073709551616 - 9223372036854775808 = S := by omega
  refine BrS.t (decide_eq_true (by omega)) ?_
  cbv
  rw [hSw]
  by_cases c3 : S = 0
  · refine BrS.t (by simp [icmp, c3]) ?_
    cbv
    exact bad 2 (by rw [hE, if_pos (.inr c3)]) (by decide)
  refine BrS.f (by simp [icmp, c3]) ?_
  cbv
  refine BrS.f (by simp; omega) ?_
  cbv
  have hSp : 0 < S := by omega
  have hok : shareE T ws = 0 := by rw [hE, if_neg (by omega), if_neg (by omega)]
  have hsv : shareV T ws = shareL T ws := by unfold shareV; rw [if_pos hok]
  have hfl := fls_len T ws
  have hfn := fls_nonneg (T := T) (by omega) hpos (by rw [hS]; exact hSp)
  have hln := left_nonneg (T := T) hpos (by rw [hS]; exact hSp)
  have hSu : IntKind.u64.wrap S = S := by rw [wrapU]; omega
  have hTu : IntKind.u64.wrap T = T := by rw [wrapU]; omega
  clear hsum hE bad
  refine MustS.mk (by simp only [hr]; simp; omega) ?_
  cbv
  let E2 : Int → List AV := fun i => sp 115 [(0, AI .i64 (.th fun _ => T)), (1, list64 ws), (9, AI .i64 (.th fun _ => S)), (11, .sl 0 1 (.lit 0) (.th fun _ => R.toNat) (.th fun _ => R.toNat)), (12, AI .i64 (.th fun _ => T - ((fls T ws).take i.toNat).sum)), (57, list64 ws), (58, AI .i64 (.th fun _ => R)), (59, AI .i64 (.th fun _ => i))]
  let O2 : Int → List AO := fun i => [IArr (part0 (fls T ws) i.toNat) R.toNat]
  refine ACode.cut (fun x e o => x = .exit 3 ∧ e = E2 R ∧ o = O2 R) ?loop2 ?rest2
  case loop2 =>
    refine ACode.inv (ty hP) (fun n e o => ∃ i, 0 ≤ i ∧ i ≤ R ∧ n = (R - i).toNat ∧ e = E2 i ∧ o = O2 i) R.toNat (E2 0) (O2 0)
      (Ren.sp [0] rfl rfl rfl (.cons rfl (.pure rfl) (.cons rfl (.pure rfl) (.cons rfl (.int rfl) (.cons rfl (.sl (q := 0) rfl rfl ?_ ?_) (.cons rfl (.int ?_) (.cons rfl (.pure rfl) (.cons rfl (.int hr) (.cons rfl (.int rfl) .nil)))))))) (.cons rfl ?_ .nil))
      ⟨0, by omega, by omega, by simp, rfl, rfl⟩ ?_
    · simp only [Th.den_th]; rw [hr]
    · simp only [Th.den_th]; rw [hr]
    · simp
    · simp only [Th.den_th]
      rw [hr, show R.toNat = (fls T ws).length by omega]
      refine .arr (by simp only [Th.den_th]; rw [List.length_replicate, rowsI_len, part0_len _ _ (by simp)]) (fun i e e' h1 h2 => ?_) rfl
      simp only [Th.den_th] at h1 h2
      rw [List.getElem?_replicate] at h1
      split at h1
      · rename_i hi
        cases h1
        rw [rowsI_get _ i 0 (by rw [show Int.toNat 0 = 0 from rfl, part0_zero, List.getElem?_replicate, if_pos hi])] at h2
        cases h2
        refine ⟨rfl, fun j x y h3 h4 => ?_⟩
        cases j with
        | zero => cases h3; cases h4; exact .int rfl
        | succ j => cases h4
      · cases h1
    rintro n e o ⟨i, i0, i1, rfl, rfl, rfl⟩ J hJ
    cbv
    refine BrS.mk (fun k1 => ?_) (fun k1 => ?_) <;> cbv
    · have k1 : i < R := by simpa [icmp] using k1
      obtain ⟨w, hw, hww⟩ := get64 hw64 hR i0 k1
      have hwp := hpos w (List.mem_of_getElem? hw)
      have hwS := hle w (List.mem_of_getElem? hw)
      have hwu : IntKind.u64.wrap w = w := by rw [wrapU]; omega
      have hfg := fls_get (T := T) hw
      rw [hS] at hfg
      have hq0 := fl_nonneg (T := T) (S := S) (w := w) (by omega) hwp hSp
      have hq1 := fl_le (T := T) (S := S) (w := w) (by omega) hwS hSp
      have hts : ((fls T ws).take (i + 1).toNat).sum = ((fls T ws).take i.toNat).sum + fl T S w := by rw [show (i + 1).toNat = i.toNat + 1 by omega]; exact take_succ_sum _ _ _ hfg
      have hb1 := take_sum_le (fls T ws) i.toNat hfn
      have hb2 := take_sum_le (fls T ws) (i + 1).toNat hfn
      obtain ⟨hi, lo, hml, hl0, hl1⟩ : ∃ hi lo : Int, T * w = 18446744073709551616 * hi + lo ∧ 0 ≤ lo ∧ lo < 18446744073709551616 := ⟨T * w / 18446744073709551616, T * w % 18446744073709551616, by omega⟩
      have hTw : 0 ≤ T * w := Int.mul_nonneg (by omega) hwp
      have hhl := hi_lt hml hl0 (by omega) ⟨hwp, hwS⟩ hSp
      have hhd := div64_ret hP hi lo S (by omega) ⟨hl0, hl1⟩ ⟨hSp, by omega⟩ hhl
      have hfq : (hi * 18446744073709551616 + lo) / S = fl T S w := by unfold fl; rw [hml, Int.mul_comm hi]
      rw [hfq] at hhd
      have hfw : IntKind.i64.wrap (fl T S w) = fl T S w := by rw [wrap64]; omega
      refine NthS.mk _ i0 (rows64_get ws _ w hw) ?_
      cbv
      refine mul64_at hP hi lo (by show 0 ≤ IntKind.u64.wrap T ∧ _; rw [Th.den_th, hTu]; omega) (by show 0 ≤ IntKind.u64.wrap w ∧ _; rw [Th.den_th, hwu]; omega) (by show IntKind.u64.wrap T * IntKind.u64.wrap w = _; rw [hTu, hwu]; exact hml) ⟨hl0, hl1⟩ ?_
      cbv
      refine hhd.call (.cons (.pure rfl) (.cons (.pure rfl) (.cons (.int hSu) .nil))) rfl ?_
      cbv
      refine MustS.mk (by unfold inRB; simp only [Bool.and_eq_true, decide_eq_true_eq]; omega) ?_
      cbv
      refine NthS.mk [AI .i64 (.th fun _ => 0)] (Int.natCast_nonneg _) (by
        show (rowsI (part0 (fls T ws) i.toNat))[((0 + i.toNat : Nat) : Int).toNat]? = _
        rw [Int.toNat_natCast, Nat.zero_add]
        exact rowsI_get _ _ _ (part0_get _ _ (by omega))) ?_
      cbv
      refine MustS.mk (by unfold inRB; simp only [Bool.and_eq_true, decide_eq_true_eq]; omega) ?_
      cbv
      have hset : (rowsI (part0 (fls T ws) i.toNat)).set (0 + i.toNat) [AI .i64 (.th fun _ => IntKind.i64.wrap (fl T S w))] = rowsI (part0 (fls T ws) (i + 1).toNat) := by
        rw [hfw, rowsI_set, Nat.zero_add, part0_set _ _ _ hfg, show (i + 1).toNat = i.toNat + 1 by omega]
      have hgot : (part0 (fls T ws) (i + 1).toNat)[i.toNat]? = some (fl T S w) := by
        have e : part0 (fls T ws) (i + 1).toNat = (part0 (fls T ws) i.toNat).set i.toNat (fl T S w) := by rw [part0_set _ _ _ hfg, show (i + 1).toNat = i.toNat + 1 by omega]
        rw [e, List.getElem?_set_self (by rw [part0_len _ _ (by omega)]; omega)]
      refine NthS.mk [AI .i64 (.th fun _ => fl T S w)] (Int.natCast_nonneg _) (by
        show ((rowsI (part0 (fls T ws) i.toNat)).set (0 + i.toNat) [AI .i64 (.th fun _ => IntKind.i64.wrap (fl T S w))])[((0 + i.toNat : Nat) : Int).toNat]? = _
        rw [hset, Int.toNat_natCast, Nat.zero_add]
        exact rowsI_get _ _ _ hgot) ?_
      cbv
      refine hJ (R - (i + 1)).toNat _ _ (E2 (i + 1)) (O2 (i + 1)) (by omega) (Ren.sp [0] rfl rfl rfl (.cons rfl (.pure rfl) (.cons rfl (.pure rfl) (.cons rfl (.pure rfl) (.cons rfl (.sl (q := 0) rfl rfl rfl rfl) (.cons rfl (.int ?_) (.cons rfl (.pure rfl) (.cons rfl (.pure rfl) (.cons rfl (.int ?_) .nil)))))))) (.cons rfl (.arrEq hset ?_ rfl) .nil)) ⟨i + 1, by omega, by omega, rfl, rfl, rfl⟩
      · simp only [Th.den_th, iop, wrap64]; rw [hts]; omega
      · simp only [Th.den_th, iop, wrap64]; omega
      · intro e he
        have he' : e ∈ (rowsI (part0 (fls T ws) i.toNat)).set (0 + i.toNat) [AI .i64 (.th fun _ => IntKind.i64.wrap (fl T S w))] := he
        rw [hset] at he'
        exact rowsI_pure _ e he'
    · have k1 : ¬ i < R := by simpa [icmp] using k1
      obtain rfl : i = R := by omega
      exact ⟨_, _, Ren.sp [0] rfl rfl rfl (.cons rfl (.pure rfl) (.cons rfl (.pure rfl) (.cons rfl (.pure rfl) (.cons rfl (.sl (q := 0) rfl rfl rfl rfl) (.cons rfl (.pure rfl) (.cons rfl (.pure rfl) (.cons rfl (.pure rfl) (.cons rfl (.pure rfl) .nil)))))))) (.cons rfl (.arrEq rfl (rowsI_pure _) rfl) .nil), rfl, rfl, rfl⟩
  case rest2 =>
  rintro x e o ⟨rfl, rfl, rfl⟩
  cbv
  obtain ⟨n0, hn0⟩ : ∃ n0, T - (fls T ws).sum = n0 := ⟨_, rfl⟩
  have hpl := prs_len T ws
  have hft : (fls T ws).take R.toNat = fls T ws := List.take_of_length_le (by omega)
  have hsh : shareL T ws = topUp n0 (prs T ws) := by rw [shareL_eq, hn0]
  have hbig : ∀ q ∈ fls T ws, q ≤ T - n0 := fun q hq => by have := le_sum _ hfn q hq; omega
  rw [hn0] at hln
  let E3 : Int → List AV := fun i => sp 115 [(11, .sl 0 1 (.lit 0) (.th fun _ => R.toNat) (.th fun _ => R.toNat)), (12, AI .i64 (.th fun _ => topL n0 ((prs T ws).take i.toNat))), (92, list64 ws), (93, AI .i64 (.th fun _ => R)), (94, AI .i64 (.th fun _ => i))]
  let O3 : Int → List AO := fun i => [IArr (half n0 (prs T ws) i.toNat) R.toNat]
  refine ACode.cut (fun x e o => x = .exit 5 ∧ e = E3 R ∧ o = O3 R) ?loop3 ?rest3
  case loop3 =>
    refine ACode.inv (ty hP) (fun n e o => ∃ i, 0 ≤ i ∧ i ≤ R ∧ n = (R - i).toNat ∧ e = E3 i ∧ o = O3 i) R.toNat (E3 0) (O3 0)
      (Ren.sp [0] rfl rfl rfl (.cons rfl (.sl (q := 0) rfl rfl rfl rfl) (.cons rfl (.int ?_) (.cons rfl (.pure rfl) (.cons rfl (.int hr) (.cons rfl (.int rfl) .nil))))) (.cons rfl (.arrEq ?_ (rowsI_pure _) rfl) .nil))
      ⟨0, by omega, by omega, by simp, rfl, rfl⟩ ?_
    · simp only [Th.den_th]; rw [hft, hn0]; rfl
    · show rowsI (part0 (fls T ws) R.toNat) = rowsI (half n0 (prs T ws) 0)
      rw [half_zero, prs_snd, show R.toNat = (fls T ws).length by omega, part0_all]
    rintro n e o ⟨i, i0, i1, rfl, rfl, rfl⟩ J hJ
    cbv
    refine BrS.mk (fun k1 => ?_) (fun k1 => ?_) <;> cbv
    · have k1 : i < R := by simpa [icmp] using k1
      obtain ⟨w, hw, hww⟩ := get64 hw64 hR i0 k1
      have hpg := prs_get (T := T) hw
      have hfg := fls_get (T := T) hw
      rw [hS] at hpg hfg
      have hq0 := hfn _ (List.mem_of_getElem? hfg)
      have hq1 := hbig _ (List.mem_of_getElem? hfg)
      have hhg := half_get n0 _ _ _ _ hpg
      have hhl := half_len n0 (prs T ws) i.toNat (by omega)
      obtain ⟨hyes, hno⟩ := half_next n0 _ _ _ _ hpg
      have htr := topL_range ((prs T ws).take i.toNat) n0 hln
      have e1 : (i + 1).toNat = i.toNat + 1 := by omega
      rw [← e1] at hyes hno
      have fin : ∀ {e : List AV} {o : AO}, lenL e = 115 → nth e 11 = some (.sl 0 1 (.lit 0) (.th fun _ => R.toNat) (.th fun _ => R.toNat)) → (∃ x, nth e 12 = some (AI .i64 x) ∧ x.den = topL n0 ((prs T ws).take (i + 1).toNat)) → nth e 92 = some (list64 ws) → nth e 93 = some (AI .i64 (.th fun _ => R)) → nth e 94 = some (AI .i64 (.th fun _ => iop .add .i64 i 1)) →
          RO 0 [0] [o] o (IArr (half n0 (prs T ws) (i + 1).toNat) R.toNat) → J e [o] := fun l n11 ⟨_, n12, d12⟩ n92 n93 n94 ho =>
        hJ (R - (i + 1)).toNat _ _ (E3 (i + 1)) (O3 (i + 1)) (by omega) (Ren.sp [0] rfl rfl l (.cons n11 (.sl (q := 0) rfl rfl rfl rfl) (.cons n12 (.int d12) (.cons n92 (.pure rfl) (.cons n93 (.pure rfl) (.cons n94 (.int (by simp only [Th.den_th, iop, wrap64]; omega)) .nil))))) (.cons rfl ho .nil)) ⟨i + 1, by omega, by omega, rfl, rfl, rfl⟩
      refine NthS.mk _ i0 (rows64_get ws _ w hw) ?_
      cbv
      by_cases hc : 0 < w ∧ 0 < topL n0 ((prs T ws).take i.toNat)
      · obtain ⟨y1, y2⟩ := hyes hc
        have hwr : iop .add .i64 (fl T S w) 1 = fl T S w + 1 := by simp only [iop, wrap64]; omega
        refine BrS.t (decide_eq_true hc.1) ?_
        cbv
        refine BrS.t (decide_eq_true hc.2) ?_
        cbv
        refine MustS.mk (by unfold inRB; simp only [Bool.and_eq_true, decide_eq_true_eq]; omega) ?_
        cbv
        refine NthS.mk [AI .i64 (.th fun _ => fl T S w)] (Int.natCast_nonneg _) (by
          show (rowsI (half n0 (prs T ws) i.toNat))[((0 + i.toNat : Nat) : Int).toNat]? = _
          rw [Int.toNat_natCast, Nat.zero_add]
          exact rowsI_get _ _ _ hhg) ?_
        cbv
        refine MustS.mk (by unfold inRB; simp only [Bool.and_eq_true, decide_eq_true_eq]; omega) ?_
        cbv
        refine NthS.mk [AI .i64 (.th fun _ => fl T S w)] (Int.natCast_nonneg _) (by
          show (rowsI (half n0 (prs T ws) i.toNat))[((0 + i.toNat : Nat) : Int).toNat]? = _
          rw [Int.toNat_natCast, Nat.zero_add]
          exact rowsI_get _ _ _ hhg) ?_
        cbv
        have hset : (rowsI (half n0 (prs T ws) i.toNat)).set (0 + i.toNat) [AI .i64 (.th fun _ => iop .add .i64 (fl T S w) 1)] = rowsI (half n0 (prs T ws) (i + 1).toNat) := by
          rw [hwr, rowsI_set, Nat.zero_add, y1]
        refine fin rfl rfl ⟨_, rfl, ?_⟩ rfl rfl rfl (.arrEq hset ?_ rfl)
        · simp only [Th.den_th, iop, wrap64]; rw [y2]; omega
        · intro e he
          have he' : e ∈ (rowsI (half n0 (prs T ws) i.toNat)).set (0 + i.toNat) [AI .i64 (.th fun _ => iop .add .i64 (fl T S w) 1)] := he
          rw [hset] at he'
          exact rowsI_pure _ e he'
      · obtain ⟨y1, y2⟩ := hno hc
        have fin2 : ∀ {e : List AV}, lenL e = 115 → nth e 11 = some (.sl 0 1 (.lit 0) (.th fun _ => R.toNat) (.th fun _ => R.toNat)) → nth e 12 = some (AI .i64 (.th fun _ => topL n0 ((prs T ws).take i.toNat))) → nth e 92 = some (list64 ws) → nth e 93 = some (AI .i64 (.th fun _ => R)) → nth e 94 = some (AI .i64 (.th fun _ => iop .add .i64 i 1)) → J e [IArr (half n0 (prs T ws) i.toNat) R.toNat] := fun l n11 n12 n92 n93 n94 =>
          fin l n11 ⟨_, n12, y2.symm⟩ n92 n93 n94 (.arrEq (by rw [y1]) (rowsI_pure _) rfl)
        by_cases hw0 : 0 < w
        · refine BrS.t (decide_eq_true hw0) ?_
          cbv
          refine BrS.f (decide_eq_false fun h => hc ⟨hw0, h⟩) ?_
          cbv
          exact fin2 rfl rfl rfl rfl rfl rfl
        · refine BrS.f (decide_eq_false hw0) ?_
          cbv
          exact fin2 rfl rfl rfl rfl rfl rfl
    · have k1 : ¬ i < R := by simpa [icmp] using k1
      obtain rfl : i = R := by omega
      exact ⟨_, _, Ren.sp [0] rfl rfl rfl (.cons rfl (.sl (q := 0) rfl rfl rfl rfl) (.cons rfl (.pure rfl) (.cons rfl (.pure rfl) (.cons rfl (.pure rfl) (.cons rfl (.pure rfl) .nil))))) (.cons rfl (.arrEq rfl (rowsI_pure _) rfl) .nil), rfl, rfl, rfl⟩
  case rest3 =>
  rintro x e o ⟨rfl, rfl, rfl⟩
  have hhl : half n0 (prs T ws) R.toNat = shareL T ws := by rw [hsh, show R.toNat = (prs T ws).length by omega, half_all]
  have hsl := shareL_len T ws
  cbv
  refine .tup' (.cons (.fzS (rows64 (shareL T ws)) _ rfl rfl ?_ ?_ ?_) (.cons (.int (by rw [Th.den_th, hok]; rfl)) .nil))
  · show rowsI (half n0 (prs T ws) R.toNat) = _
    rw [hhl, rowsI_cells]
  · show 0 + R.toNat ≤ _
    rw [rows64_len]; omega
  · refine .hide (es' := rows64 (shareL T ws)) ?_ (TELs.of ?_)
    · show Abs.T.vsl 1 (rows64 (shareV T ws)) = _
      rw [hsv]
    · show ((rows64 (shareL T ws)).drop 0).take R.toNat = _
      rw [List.drop_zero, List.take_of_length_le (by rw [rows64_len]; omega)]
end Go.Proofs.YtchbobndobpocaaDoor
