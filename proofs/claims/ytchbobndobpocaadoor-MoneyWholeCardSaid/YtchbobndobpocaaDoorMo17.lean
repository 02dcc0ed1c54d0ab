/- Shares: the document's; the laws MoneyShares, MoneyWhole. -/
import Derived.Test.YtchbobndobpocaaDoorMo16
namespace Go.Proofs.YtchbobndobpocaaDoor
open Go.Abs Go.IntWalk Go.Money
variable {P : Program} (hP : P = Tryd.prog)

def someP (ws : List Int) : Bool := ws.any fun w => decide (0 < w)
theorem someP_sum {ws : List Int} (h : ∀ w ∈ ws, 0 ≤ w) : someP ws = true ↔ 0 < ws.sum := by
  constructor
  · intro hs
    obtain ⟨w, hw, h0⟩ := List.any_eq_true.1 hs
    have := le_sum ws h w hw
    have : 0 < w := by simpa using h0
    omega
  · intro h0
    cases hs : someP ws with
    | true => rfl
    | false =>
      have hz : ∀ w ∈ ws, w = 0 := fun w hw => by
        have := List.any_eq_false.1 hs w hw
        have h2 := h w hw
        simp at this; omega
      have : ws.sum = 0 := by
        clear hs h h0
        induction ws with
        | nil => rfl
        | cons a l ih => rw [List.sum_cons, hz a List.mem_cons_self, ih fun w hw => hz w (List.mem_cons_of_mem _ hw)]; rfl
      omega
theorem fls_take (T : Int) (ws : List Int) (i : Nat) (q : Int) (h : (fls T ws)[i]? = some q) : (fls T ws).take (i + 1) = (fls T ws).take i ++ [q] := by
  rw [List.take_add_one, h]; rfl

include hP
set_option maxRecDepth 100000 in
set_option maxHeartbeats 8000000 in
theorem refShare_ret (T : Int) (ws : List Int) (hT64 : I64 T) (hw64 : All64 ws) (hlen : ws.length ≤ 1000000000000000) :
    Ret P 13 [AI .i64 (.th fun _ => T), list64 ws] (shY T ws) := by
  obtain ⟨R, hR, hR0, hR1⟩ : ∃ R : Int, R = (ws.length : Int) ∧ 0 ≤ R ∧ R ≤ 1000000000000000 := ⟨_, rfl, by omega, by omega⟩
  have hr : ((Abs.T.vslS 1 fun _ => Abs.T.vsl 1 (rows64 ws)).rows.length : Int) = R := by rw [rows_len64, hR]
  have hRn : R.toNat = ws.length := by omega
  have bad : ∀ (e : Int), shareE T ws = e → e ≠ 0 → RV 0 [] [] (.tup [.c (.lit (.slice none 0 0)), AI .i64 (.lit e)]) (shY T ws) := fun e h h0 =>
    .tup' (.cons (.c (.hideE (by show Abs.T.vsl 1 (rows64 (shareV T ws)) = _; unfold shareV; rw [if_neg (by omega)]; rfl))) (.cons (.int (by rw [Th.den_th, h]; rfl)) .nil))
  refine e13 hP ?_
  cbv
  refine BrS.mk (fun h => ?_) (fun h => ?_) <;> cbv
  · have h : 4096 < R := by rw [← hr]; simpa [icmp] using h
    exact bad 3 (by unfold shareE; rw [if_pos (by omega)]) (by decide)
  have h4 : R ≤ 4096 := by
    have h : ¬ 4096 < R := by rw [← hr]; simpa [icmp] using h
    omega
  have h4n : ¬ ws.length > 4096 := by omega
  let E : Int → List AV := fun i => sp 90 [(0, AI .i64 (.th fun _ => T)), (1, list64 ws), (6, AB (.th fun _ => someP (ws.take i.toNat))), (20, list64 ws), (21, AI .i64 (.th fun _ => R)), (22, AI .i64 (.th fun _ => i))]
  let EB : List AV := sp 90 [(4, .c (.lit (.slice none 0 0))), (5, AI .i64 (.lit 2))]
  refine ACode.cut (fun x e o => (x = .exit 0 ∧ (∀ w ∈ ws, 0 ≤ w) ∧ e = E R ∧ o = []) ∨ (x = .ret ∧ (∃ w ∈ ws, w < 0) ∧ e = EB ∧ o = [])) ?loop ?rest
  case loop =>
    refine ACode.inv (ty hP) (fun n e o => ∃ i, 0 ≤ i ∧ i ≤ R ∧ (∀ w ∈ ws.take i.toNat, 0 ≤ w) ∧ n = (R - i).toNat ∧ e = E i ∧ o = []) R.toNat (E 0) []
      (Ren.sp [] rfl rfl rfl (.cons rfl (.pure rfl) (.cons rfl (.pure rfl) (.cons rfl (.bool rfl) (.cons rfl (.pure rfl) (.cons rfl (.int hr) (.cons rfl (.int rfl) .nil)))))) .nil)
      ⟨0, by omega, by omega, by simp, by simp, rfl, rfl⟩ ?_
    rintro n e o ⟨i, i0, i1, i2, rfl, rfl, rfl⟩ J hJ
    cbv
    refine BrS.mk (fun k1 => ?_) (fun k1 => ?_) <;> cbv
    · have k1 : i < R := by simpa [icmp] using k1
      obtain ⟨w, hw, hww⟩ := get64 hw64 hR i0 k1
      have htk : ws.take (i + 1).toNat = ws.take i.toNat ++ [w] := by rw [show (i + 1).toNat = i.toNat + 1 by omega, List.take_add_one, hw]; rfl
      have hsm : someP (ws.take (i + 1).toNat) = (someP (ws.take i.toNat) || decide (0 < w)) := by rw [htk]; simp [someP]
      refine NthS.mk _ i0 (rows64_get ws _ w hw) ?_
      cbv
      refine BrS.mk (fun k2 => ?_) (fun k2 => ?_) <;> cbv
      · have k2 : w < 0 := by simpa [icmp] using k2
        exact ⟨_, _, Ren.sp [] rfl rfl rfl (.cons rfl (.pure rfl) (.cons rfl (.pure rfl) .nil)) .nil, .inr ⟨rfl, ⟨w, List.mem_of_getElem? hw, k2⟩, rfl, rfl⟩⟩
      · have k2 : ¬ w < 0 := by simpa [icmp] using k2
        refine BrS.mk (fun k3 => ?_) (fun k3 => ?_) <;> cbv
        all_goals
          refine hJ (R - (i + 1)).toNat _ _ (E (i + 1)) [] (by omega) (Ren.sp [] rfl rfl rfl (.cons rfl (.pure rfl) (.cons rfl (.pure rfl) (.cons rfl (.bool ?_) (.cons rfl (.pure rfl) (.cons rfl (.pure rfl) (.cons rfl (.int ?_) .nil)))))) .nil) ⟨i + 1, by omega, by omega, ?_, rfl, rfl, rfl⟩
          · rw [Th.den_th, hsm, k3]; rfl
          · simp only [Th.den_th, iop, wrap64]; omega
          · rw [htk]
            intro x hx
            rcases List.mem_append.1 hx with hx | hx
            · exact i2 x hx
            · simp at hx; omega
    · have k1 : ¬ i < R := by simpa [icmp] using k1
      obtain rfl : i = R := by omega
      exact ⟨_, _, Ren.sp [] rfl rfl rfl (.cons rfl (.pure rfl) (.cons rfl (.pure rfl) (.cons rfl (.pure rfl) (.cons rfl (.pure rfl) (.cons rfl (.pure rfl) (.cons rfl (.pure rfl) .nil)))))) .nil, .inl ⟨rfl, by rwa [hRn, List.take_length] at i2, rfl, rfl⟩⟩
  case rest =>
  rintro x e o (⟨rfl, hpos, rfl, rfl⟩ | ⟨rfl, hneg, rfl, rfl⟩)
  rotate_left
  · cbv
    exact bad 2 (by unfold shareE; rw [if_neg h4n, if_pos hneg]) (by decide)
  have hnn : ¬ ∃ w ∈ ws, w < 0 := fun ⟨w, hw, h⟩ => by have := hpos w hw; omega
  have hS0 := sum_nonneg ws hpos
  have hle := le_sum ws hpos
  have hsum := all_ret hP ws hw64 (by omega)
  have hsp : someP (ws.take R.toNat) = true ↔ 0 < ws.sum := by rw [hRn, List.take_length]; exact someP_sum hpos
  have hE : shareE T ws = if T < 0 ∨ ws.sum = 0 then 2 else if 9223372036854775807 < ws.sum then 5 else 0 := by unfold shareE; rw [if_neg h4n, if_neg hnn]
  obtain ⟨S, hS⟩ : ∃ S, ws.sum = S := ⟨_, rfl⟩
  rw [hS] at hE hS0 hle hsp hsum
  cbv
  by_cases c1 : T < 0
  · refine BrS.t (by simp [icmp]; omega) ?_
    cbv
    exact bad 2 (by rw [hE, if_pos (.inl c1)]) (by decide)
  refine BrS.f (by simp [icmp]; omega) ?_
  cbv
  by_cases c3 : S = 0
  · refine BrS.t (by cases h : someP (ws.take R.toNat) with | false => rfl | true => have := hsp.1 h; omega) ?_
    cbv
    exact bad 2 (by rw [hE, if_pos (.inr c3)]) (by decide)
  refine BrS.f (by rw [hsp.2 (by omega)]; rfl) ?_
  cbv
  refine hsum.call (.cons (.pure rfl) .nil) rfl ?_
  cbv
  by_cases c2 : S ≤ 9223372036854775807
  rotate_left
  · refine BrS.t (by simp; omega) ?_
    cbv
    exact bad 5 (by rw [hE, if_neg (by omega), if_pos (by omega)]) (by decide)
  refine BrS.f (by simp; omega) ?_
  cbv
  have hSp : 0 < S := by omega
  have hok : shareE T ws = 0 := by rw [hE, if_neg (by omega), if_neg (by omega)]
  have hsv : shareV T ws = shareL T ws := by unfold shareV; rw [if_pos hok]
  have hokS : okV S = S := okV_ok (by omega)
  have hfl := fls_len T ws
  have hfn := fls_nonneg (T := T) (by omega) hpos (by rw [hS]; exact hSp)
  have hln := left_nonneg (T := T) hpos (by rw [hS]; exact hSp)
  have hftl : ∀ i : Nat, i ≤ ws.length → ((fls T ws).take i).length = i := fun i h => by rw [List.length_take]; omega
  clear hsum hE bad hsp
  let E2 : Int → Nat → List AV := fun i c => sp 90 [(0, AI .i64 (.th fun _ => T)), (1, list64 ws), (9, AI .i64 (.th fun _ => S)), (11, .sl 0 1 (.lit 0) (.th fun _ => i.toNat) (.th fun _ => c)), (12, AI .i64 (.th fun _ => T - ((fls T ws).take i.toNat).sum)), (48, list64 ws), (49, AI .i64 (.th fun _ => R)), (50, AI .i64 (.th fun _ => i))]
  let O2 : Int → Nat → List AO := fun i c => [IArr ((fls T ws).take i.toNat) c]
  refine ACode.cut (fun x e o => ∃ c, R.toNat ≤ c ∧ x = .exit 2 ∧ e = E2 R c ∧ o = O2 R c) ?loop2 ?rest2
  case loop2 =>
    refine ACode.inv (ty hP) (fun n e o => ∃ i c, 0 ≤ i ∧ i ≤ R ∧ i.toNat ≤ c ∧ n = (R - i).toNat ∧ e = E2 i c ∧ o = O2 i c) R.toNat (E2 0 0) (O2 0 0)
      (Ren.sp [1000] rfl rfl rfl (.cons rfl (.pure rfl) (.cons rfl (.pure rfl) (.cons rfl (.int hokS) (.cons rfl (.nilS (q := 0) rfl rfl rfl rfl) (.cons rfl (.int (by simp)) (.cons rfl (.pure rfl) (.cons rfl (.int hr) (.cons rfl (.int rfl) .nil)))))))) (.kill rfl ⟨by simp [rowsI], by simp⟩ .nil))
      ⟨0, 0, by omega, by omega, by omega, by simp, rfl, rfl⟩ ?_
    rintro n e o ⟨i, c, i0, i1, ic, rfl, rfl, rfl⟩ J hJ
    cbv
    refine BrS.mk (fun k1 => ?_) (fun k1 => ?_) <;> cbv
    · have k1 : i < R := by simpa [icmp] using k1
      obtain ⟨w, hw, hww⟩ := get64 hw64 hR i0 k1
      have hwp := hpos w (List.mem_of_getElem? hw)
      have hwS := hle w (List.mem_of_getElem? hw)
      have hfg := fls_get (T := T) hw
      rw [hS] at hfg
      have hq0 := fl_nonneg (T := T) (S := S) (w := w) (by omega) hwp hSp
      have hq1 := fl_le (T := T) (S := S) (w := w) (by omega) hwS hSp
      have hts : ((fls T ws).take (i + 1).toNat).sum = ((fls T ws).take i.toNat).sum + fl T S w := by rw [show (i + 1).toNat = i.toNat + 1 by omega]; exact take_succ_sum _ _ _ hfg
      have htk : (fls T ws).take (i + 1).toNat = (fls T ws).take i.toNat ++ [fl T S w] := by rw [show (i + 1).toNat = i.toNat + 1 by omega]; exact fls_take _ _ _ _ hfg
      have hil := hftl i.toNat (by omega)
      have hb1 := take_sum_le (fls T ws) i.toNat hfn
      have hb2 := take_sum_le (fls T ws) (i + 1).toNat hfn
      refine NthS.mk _ i0 (rows64_get ws _ w hw) ?_
      cbv
      refine (part_ret hP T w S (by omega) ⟨hwp, hwS⟩ ⟨hSp, c2⟩).call (.cons (.pure rfl) (.cons (.pure rfl) (.cons (.pure rfl) .nil))) rfl ?_
      cbv
      refine append_own (ty hP) (e := 2) rfl rfl rfl (by simp) rfl rfl (by decide) rfl ?_ rfl ?_ (Src.sl (und_slice (ty hP) (e := 2) rfl rfl) (es := .lit [[AI .i64 (.th fun _ => fl T S w)]]) (sz := .lit 1) rfl (by simp) (by simp)) ?_ ?_ (.th fun _ => (i + 1).toNat) (.th fun _ => rowsI ((fls T ws).take (i + 1).toNat)) ?_ ?_ (fun c' hc => ?_)
      · show i.toNat ≤ (rowsI _).length
        rw [rowsI_len, hil]; omega
      · exact rowsI_wide _
      · show (i.toNat + 1) * 8 ≤ _; omega
      · show i.toNat + 1 ≤ _; omega
      · show (i + 1).toNat = i.toNat + 1; omega
      · simp only [Th.den_th, Th.den_lit]
        rw [htk, rowsI_snoc, List.take_of_length_le (l := rowsI _) (by rw [rowsI_len, hil]; omega)]
        rfl
      · cbv
        refine hJ (R - (i + 1)).toNat _ _ (E2 (i + 1) c') (O2 (i + 1) c') (by omega) (Ren.sp [2] rfl rfl rfl (.cons rfl (.pure rfl) (.cons rfl (.pure rfl) (.cons rfl (.pure rfl) (.cons rfl (.sl (q := 0) rfl rfl rfl rfl) (.cons rfl (.int ?_) (.cons rfl (.pure rfl) (.cons rfl (.pure rfl) (.cons rfl (.int ?_) .nil)))))))) (.cons rfl (.arrEq rfl (rowsI_pure _) rfl) .nil)) ⟨i + 1, c', by omega, by omega, hc, rfl, rfl, rfl⟩
        · simp only [Th.den_th, iop, wrap64]; rw [hts]; omega
        · simp only [Th.den_th, iop, wrap64]; omega
    · have k1 : ¬ i < R := by simpa [icmp] using k1
      obtain rfl : i = R := by omega
      exact ⟨_, _, Ren.sp [0] rfl rfl rfl (.cons rfl (.pure rfl) (.cons rfl (.pure rfl) (.cons rfl (.pure rfl) (.cons rfl (.sl (q := 0) rfl rfl rfl rfl) (.cons rfl (.pure rfl) (.cons rfl (.pure rfl) (.cons rfl (.pure rfl) (.cons rfl (.pure rfl) .nil)))))))) (.cons rfl (.arrEq rfl (rowsI_pure _) rfl) .nil), c, ic, rfl, rfl, rfl⟩
  case rest2 =>
  rintro x e o ⟨c, hc, rfl, rfl, rfl⟩
  cbv
  obtain ⟨n0, hn0⟩ : ∃ n0, T - (fls T ws).sum = n0 := ⟨_, rfl⟩
  have hpl := prs_len T ws
  have hft : (fls T ws).take R.toNat = fls T ws := List.take_of_length_le (by omega)
  have hsh : shareL T ws = topUp n0 (prs T ws) := by rw [shareL_eq, hn0]
  have hbig : ∀ q ∈ fls T ws, q ≤ T - n0 := fun q hq => by have := le_sum _ hfn q hq; omega
  rw [hn0] at hln
  let E3 : Int → List AV := fun i => sp 90 [(1, list64 ws), (11, .sl 0 1 (.lit 0) (.th fun _ => R.toNat) (.th fun _ => c)), (12, AI .i64 (.th fun _ => topL n0 ((prs T ws).take i.toNat))), (67, AI .i64 (.th fun _ => R)), (68, AI .i64 (.th fun _ => i))]
  let O3 : Int → List AO := fun i => [IArr (half n0 (prs T ws) i.toNat) c]
  refine ACode.cut (fun x e o => x = .exit 4 ∧ e = E3 R ∧ o = O3 R) ?loop3 ?rest3
  case loop3 =>
    refine ACode.inv (ty hP) (fun n e o => ∃ i, 0 ≤ i ∧ i ≤ R ∧ n = (R - i).toNat ∧ e = E3 i ∧ o = O3 i) R.toNat (E3 0) (O3 0)
      (Ren.sp [0] rfl rfl rfl (.cons rfl (.pure rfl) (.cons rfl (.sl (q := 0) rfl rfl rfl rfl) (.cons rfl (.int ?_) (.cons rfl (.int ?_) (.cons rfl (.int rfl) .nil))))) (.cons rfl (.arrEq ?_ (rowsI_pure _) rfl) .nil))
      ⟨0, by omega, by omega, by simp, rfl, rfl⟩ ?_
    · simp only [Th.den_th]; rw [hft, hn0]; rfl
    · show ((R.toNat : Nat) : Int) = R; omega
    · show rowsI ((fls T ws).take R.toNat) = rowsI (half n0 (prs T ws) 0)
      rw [half_zero, prs_snd, hft]
    rintro n e o ⟨i, i0, i1, rfl, rfl, rfl⟩ J hJ
    cbv
    refine BrS.mk (fun k1 => ?_) (fun k1 => ?_) <;> cbv
    · have k1 : i < R := by simpa [icmp] using k1
      obtain ⟨w, hw, hww⟩ := get64 hw64 hR i0 k1
      have hpg := prs_get (T := T) hw
      have hfg := fls_get (T := T) hw
      rw [hS] at hpg hfg
      have hq0 := hfn _ (List.mem_of_getElem? hfg)
      have hq1 := hbig _ (List.mem_of_getElem? hfg)
      have hhg := half_get n0 _ _ _ _ hpg
      have hhl := half_len n0 (prs T ws) i.toNat (by omega)
      obtain ⟨hyes, hno⟩ := half_next n0 _ _ _ _ hpg
      have htr := topL_range ((prs T ws).take i.toNat) n0 hln
      have e1 : (i + 1).toNat = i.toNat + 1 := by omega
      rw [← e1] at hyes hno
      have fin : ∀ {e : List AV} {o : AO}, lenL e = 90 → nth e 1 = some (list64 ws) → nth e 11 = some (.sl 0 1 (.lit 0) (.th fun _ => R.toNat) (.th fun _ => c)) → (∃ x, nth e 12 = some (AI .i64 x) ∧ x.den = topL n0 ((prs T ws).take (i + 1).toNat)) → nth e 67 = some (AI .i64 (.th fun _ => R)) → nth e 68 = some (AI .i64 (.th fun _ => iop .add .i64 i 1)) →
          RO 0 [0] [o] o (IArr (half n0 (prs T ws) (i + 1).toNat) c) → J e [o] := fun l n1 n11 ⟨_, n12, d12⟩ n67 n68 ho =>
        hJ (R - (i + 1)).toNat _ _ (E3 (i + 1)) (O3 (i + 1)) (by omega) (Ren.sp [0] rfl rfl l (.cons n1 (.pure rfl) (.cons n11 (.sl (q := 0) rfl rfl rfl rfl) (.cons n12 (.int d12) (.cons n67 (.pure rfl) (.cons n68 (.int (by simp only [Th.den_th, iop, wrap64]; omega)) .nil))))) (.cons rfl ho .nil)) ⟨i + 1, by omega, by omega, rfl, rfl, rfl⟩
      by_cases hc : 0 < w ∧ 0 < topL n0 ((prs T ws).take i.toNat)
      · obtain ⟨y1, y2⟩ := hyes hc
        have hwr : iop .add .i64 (fl T S w) 1 = fl T S w + 1 := by simp only [iop, wrap64]; omega
        refine BrS.t (decide_eq_true hc.2) ?_
        cbv
        refine NthS.mk _ i0 (rows64_get ws _ w hw) ?_
        cbv
        refine BrS.t (decide_eq_true hc.1) ?_
        cbv
        refine MustS.mk (by unfold inRB; simp only [Bool.and_eq_true, decide_eq_true_eq]; omega) ?_
        cbv
        refine NthS.mk [AI .i64 (.th fun _ => fl T S w)] (Int.natCast_nonneg _) (by
          show (rowsI (half n0 (prs T ws) i.toNat))[((0 + i.toNat : Nat) : Int).toNat]? = _
          rw [Int.toNat_natCast, Nat.zero_add]
          exact rowsI_get _ _ _ hhg) ?_
        cbv
        refine MustS.mk (by unfold inRB; simp only [Bool.and_eq_true, decide_eq_true_eq]; omega) ?_
        cbv
        refine NthS.mk [AI .i64 (.th fun _ => fl T S w)] (Int.natCast_nonneg _) (by
          show (rowsI (half n0 (prs T ws) i.toNat))[((0 + i.toNat : Nat) : Int).toNat]? = _
          rw [Int.toNat_natCast, Nat.zero_add]
          exact rowsI_get _ _ _ hhg) ?_
        cbv
        have hset : (rowsI (half n0 (prs T ws) i.toNat)).set (0 + i.toNat) [AI .i64 (.th fun _ => iop .add .i64 (fl T S w) 1)] = rowsI (half n0 (prs T ws) (i + 1).toNat) := by
          rw [hwr, rowsI_set, Nat.zero_add, y1]
        refine fin rfl rfl rfl ⟨_, rfl, ?_⟩ rfl rfl (.arrEq hset ?_ rfl)
        · simp only [Th.den_th, iop, wrap64]; rw [y2]; omega
        · intro e he
          have he' : e ∈ (rowsI (half n0 (prs T ws) i.toNat)).set (0 + i.toNat) [AI .i64 (.th fun _ => iop .add .i64 (fl T S w) 1)] := he
          rw [hset] at he'
          exact rowsI_pure _ e he'
      · obtain ⟨y1, y2⟩ := hno hc
        have fin2 : ∀ {e : List AV}, lenL e = 90 → nth e 1 = some (list64 ws) → nth e 11 = some (.sl 0 1 (.lit 0) (.th fun _ => R.toNat) (.th fun _ => c)) → nth e 12 = some (AI .i64 (.th fun _ => topL n0 ((prs T ws).take i.toNat))) → nth e 67 = some (AI .i64 (.th fun _ => R)) → nth e 68 = some (AI .i64 (.th fun _ => iop .add .i64 i 1)) → J e [IArr (half n0 (prs T ws) i.toNat) c] := fun l n1 n11 n12 n67 n68 =>
          fin l n1 n11 ⟨_, n12, y2.symm⟩ n67 n68 (.arrEq (by rw [y1]) (rowsI_pure _) rfl)
        by_cases hl0 : 0 < topL n0 ((prs T ws).take i.toNat)
        · refine BrS.t (decide_eq_true hl0) ?_
          cbv
          refine NthS.mk _ i0 (rows64_get ws _ w hw) ?_
          cbv
          refine BrS.f (decide_eq_false fun h => hc ⟨h, hl0⟩) ?_
          cbv
          exact fin2 rfl rfl rfl rfl rfl rfl
        · refine BrS.f (decide_eq_false hl0) ?_
          cbv
          exact fin2 rfl rfl rfl rfl rfl rfl
    · have k1 : ¬ i < R := by simpa [icmp] using k1
      obtain rfl : i = R := by omega
      exact ⟨_, _, Ren.sp [0] rfl rfl rfl (.cons rfl (.pure rfl) (.cons rfl (.sl (q := 0) rfl rfl rfl rfl) (.cons rfl (.pure rfl) (.cons rfl (.pure rfl) (.cons rfl (.pure rfl) .nil))))) (.cons rfl (.arrEq rfl (rowsI_pure _) rfl) .nil), rfl, rfl, rfl⟩
  case rest3 =>
  rintro x e o ⟨rfl, rfl, rfl⟩
  have hhl : half n0 (prs T ws) R.toNat = shareL T ws := by rw [hsh, show R.toNat = (prs T ws).length by omega, half_all]
  have hsl := shareL_len T ws
  cbv
  refine .tup' (.cons (.fzS (rows64 (shareL T ws)) _ rfl rfl ?_ ?_ ?_) (.cons (.int (by rw [Th.den_th, hok]; rfl)) .nil))
  · show rowsI (half n0 (prs T ws) R.toNat) = _
    rw [hhl, rowsI_cells]
  · show 0 + R.toNat ≤ _
    rw [rows64_len]; omega
  · refine .hide (es' := rows64 (shareL T ws)) ?_ (TELs.of ?_)
    · show Abs.T.vsl 1 (rows64 (shareV T ws)) = _
      rw [hsv]
    · show ((rows64 (shareL T ws)).drop 0).take R.toNat = _
      rw [List.drop_zero, List.take_of_length_le (by rw [rows64_len]; omega)]
end Go.Proofs.YtchbobndobpocaaDoor
