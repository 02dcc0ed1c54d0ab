/- The laws MoneyShares, MoneyWhole. -/
import Derived.Test.YtchbobndobpocaaDoorMo17
import Derived.Test.YtchbobndobpocaaDoorA24
namespace Go.Proofs.YtchbobndobpocaaDoor
open Go.Abs Go.IntWalk Go.Money
variable {P : Program} (hP : P = Tryd.prog)

include hP
set_option maxRecDepth 100000 in
set_option maxHeartbeats 8000000 in
theorem same_ret (a b : List Int) (ha : All64 a) (hb : All64 b) (hal : a.length ≤ 1000000000000000) :
    Ret P 15 [list64 a, list64 b] (AB (.th fun _ => decide (a = b))) := by
  obtain ⟨R, hR, hR0, hR1⟩ : ∃ R : Int, R = (a.length : Int) ∧ 0 ≤ R ∧ R ≤ 1000000000000000 := ⟨_, rfl, by omega, by omega⟩
  have hr : ((Abs.T.vslS 1 fun _ => Abs.T.vsl 1 (rows64 a)).rows.length : Int) = R := by rw [rows_len64, hR]
  obtain ⟨M, hM, hM0⟩ : ∃ M : Int, M = (b.length : Int) ∧ 0 ≤ M := ⟨_, rfl, by omega⟩
  have hm : ((Abs.T.vslS 1 fun _ => Abs.T.vsl 1 (rows64 b)).rows.length : Int) = M := by rw [rows_len64, hM]
  have hRn : R.toNat = a.length := by omega
  have hMn : M.toNat = b.length := by omega
  refine e15 hP ?_
  cbv
  refine BrS.mk (fun h => ?_) (fun h => ?_) <;> cbv
  · have h : R ≠ M := by rw [← hr, ← hm]; simpa [icmp] using h
    refine .bool ?_
    rw [Th.den_th]; symm
    exact decide_eq_false fun e => h (by rw [e] at hRn; omega)
  have hlen : R = M := by rw [← hr, ← hm]; simpa [icmp] using h
  let E : Int → List AV := fun i => sp 26 [(0, list64 a), (1, list64 b), (12, AI .i64 (.th fun _ => R)), (13, AI .i64 (.th fun _ => i))]
  let EX : List AV := sp 26 []
  let EB : List AV := sp 26 [(4, AB (.lit false))]
  refine ACode.cut (fun x e o => (x = .exit 0 ∧ a = b ∧ e = EX ∧ o = []) ∨ (x = .ret ∧ a ≠ b ∧ e = EB ∧ o = [])) ?loop ?rest
  case loop =>
    refine ACode.inv (ty hP) (fun n e o => ∃ i, 0 ≤ i ∧ i ≤ R ∧ (a.take i.toNat = b.take i.toNat) ∧ n = (R - i).toNat ∧ e = E i ∧ o = []) R.toNat (E 0) []
      (Ren.sp [] rfl rfl rfl (.cons rfl (.pure rfl) (.cons rfl (.pure rfl) (.cons rfl (.int hr) (.cons rfl (.int rfl) .nil)))) .nil)
      ⟨0, by omega, by omega, by simp, by simp, rfl, rfl⟩ ?_
    rintro n e o ⟨i, i0, i1, i2, rfl, rfl, rfl⟩ J hJ
    cbv
    refine BrS.mk (fun k1 => ?_) (fun k1 => ?_) <;> cbv
    · have k1 : i < R := by simpa [icmp] using k1
      obtain ⟨u, hu, huw⟩ := get64 ha hR i0 k1
      obtain ⟨v, hv, hvw⟩ := get64 hb hM i0 (by omega)
      refine ADraw.of (ty hP) (mo hP) rfl ?_
      cbv
      iterate 9
        (apply DOp.is
         · intro J hJ
           cbv
           first
           | exact hJ
           | (refine NthS.mk _ i0 (rows64_get a _ _ hu) ?_
              cbv
              exact hJ)
           | (refine NthS.mk _ i0 (rows64_get b _ _ hv) ?_
              cbv
              exact hJ)
         cbv)
      refine BrS.mk (fun k2 => ?_) (fun k2 => ?_) <;> cbv
      · have k2 : u ≠ v := by simpa [icmp] using k2
        exact ⟨_, _, Ren.sp [] rfl rfl rfl (.cons rfl (.pure rfl) .nil) .nil, .inr ⟨rfl, fun e => k2 (by rw [e, hv] at hu; exact (Option.some.inj hu).symm), rfl, rfl⟩⟩
      · have k2 : u = v := by simpa [icmp] using k2
        refine hJ (R - (i + 1)).toNat _ _ (E (i + 1)) [] (by omega) (Ren.sp [] rfl rfl rfl (.cons rfl (.pure rfl) (.cons rfl (.pure rfl) (.cons rfl (.pure rfl) (.cons rfl (.int ?_) .nil)))) .nil) ⟨i + 1, by omega, by omega, ?_, rfl, rfl, rfl⟩
        · simp only [Th.den_th, iop, wrap64]; omega
        · rw [show (i + 1).toNat = i.toNat + 1 by omega, List.take_add_one, List.take_add_one, hu, hv, i2, k2]
    · have k1 : ¬ i < R := by simpa [icmp] using k1
      obtain rfl : i = R := by omega
      refine ⟨_, _, Ren.sp [] rfl rfl rfl .nil .nil, .inl ⟨rfl, ?_, rfl, rfl⟩⟩
      rwa [List.take_of_length_le (by omega), List.take_of_length_le (by omega)] at i2
  case rest =>
  rintro x e o (⟨rfl, hab, rfl, rfl⟩ | ⟨rfl, hab, rfl, rfl⟩)
  · cbv
    exact .bool (by rw [Th.den_th, decide_eq_true hab]; rfl)
  · cbv
    exact .bool (by rw [Th.den_th, decide_eq_false hab]; rfl)

omit hP in
theorem fit64t {x : AV} (h : FitV td 22 x) : ∃ l : List Int, x = list64 l ∧ All64 l ∧ l.length ≤ 17592186043904 := by
  obtain ⟨l, hf, rfl⟩ := fitV_get h (d := (td 22).get rfl) rfl
  obtain ⟨rows, rfl, h1, h2, h3⟩ := fit_slice (e := 2) (ed := (td 2).get rfl) rfl (d := (td 22).get rfl) rfl rfl hf
  obtain ⟨l, rfl, hw⟩ := rows_typed (ts := fun n : Int => [T.int .i64 (.th fun _ => n)]) (wf := fun n => I64 n) (fun r hr => by
    obtain ⟨n, rfl, hw⟩ := fit_int (d := (td 2).get rfl) rfl rfl hr
    refine ⟨n, rfl, ?_⟩
    simp only [Lit.wf, Bool.and_eq_true, decide_eq_true_eq] at hw
    exact hw) rows h1
  refine ⟨l, rfl, hw, ?_⟩
  simp [reachBytes, tdl, td, nth] at h2
  omega
omit hP in
theorem shareL_in {T : Int} {ws : List Int} (hw : ∀ w ∈ ws, 0 ≤ w) (h0 : 0 < ws.sum) (hT : 0 ≤ T) : ∀ x ∈ shareL T ws, 0 ≤ x ∧ x ≤ T := by
  have hn : ∀ x ∈ shareL T ws, 0 ≤ x := by
    intro x hx
    obtain ⟨i, hi⟩ := List.mem_iff_getElem?.1 hx
    have hl : i < ws.length := by have := (List.getElem?_eq_some_iff.1 hi).1; rwa [shareL_len] at this
    obtain ⟨y, h1, h2⟩ := shareL_get (T := T) (List.getElem?_eq_getElem hl)
    rw [h1] at hi
    obtain rfl := Option.some.inj hi
    have := fl_nonneg hT (hw _ (List.getElem_mem hl)) h0
    omega
  intro x hx
  have h1 := le_sum _ hn x hx
  rw [shareL_sum hw h0] at h1
  exact ⟨hn x hx, h1⟩
omit hP in
theorem shareV_64 {T : Int} {ws : List Int} (hT : I64 T) : All64 (shareV T ws) ∧ (shareV T ws).length ≤ 4096 := by
  unfold shareV
  split
  · rename_i h
    obtain ⟨h1, h2, h3, h4, h5⟩ := shareE_ok h
    refine ⟨fun x hx => ?_, by rw [shareL_len]; exact h1⟩
    have := shareL_in h2 h4 h3 x hx
    omega
  · exact ⟨fun x hx => (by cases hx), by simp⟩

set_option maxRecDepth 100000 in
set_option maxHeartbeats 8000000 in
theorem moneyShares_law : Law P td 3 [2, 22] := by
  intro xs hx
  obtain ⟨x, ys, rfl, h1, h2⟩ := fitVs_cons hx
  obtain ⟨y, zs, rfl, h3, h4⟩ := fitVs_cons h2
  obtain rfl := fitVs_nil h4
  obtain ⟨T, rfl, hT⟩ := fit64 h1
  obtain ⟨ws, rfl, hw64, hlen8⟩ := fit64t h3
  clear hx h1 h2 h3 h4
  have hlen : ws.length ≤ 1000000000000000 := by omega
  obtain ⟨R, hR, hR0, hR1⟩ : ∃ R : Int, R = (ws.length : Int) ∧ 0 ≤ R ∧ R ≤ 17592186043904 := ⟨_, rfl, by omega, by omega⟩
  have hRn : R.toNat = ws.length := by omega
  have hsh := share_ret hP T ws hT hw64 hlen
  have hrs := refShare_ret hP T ws hT hw64 hlen
  have hv := shareV_64 (ws := ws) hT
  have hs1 := same_ret hP (shareV T ws) (shareV T ws) hv.1 hv.1 (by omega)
  have hs2 := same_ret hP ws ws hw64 hw64 hlen
  refine e3 hP ?_
  cbv
  refine AAppend.can ?_
  refine append_own (ty hP) (e := 2) rfl rfl rfl (by simp) rfl rfl (by decide) rfl (by decide) rfl (by simp) (Src.vsl (und_slice (ty hP) (e := 2) rfl rfl) (rows := rows64 ws) (.inr ⟨_, rfl, rfl⟩) (by intro e he; simp only [rows64, List.mem_map] at he; obtain ⟨n, _, rfl⟩ := he; rfl)) ?_ ?_ (.th fun _ => R.toNat) (.th fun _ => rowsI ws) ?_ ?_ (fun c hc => ⟨list64 ws, [.dead], ⟨[0], rfl, rfl, .fzS (rows64 ws) _ rfl rfl (rowsI_cells ws) ?_ ?_, .cons rfl .dead .nil⟩, ?_⟩)
  · show (0 + ((rows64 ws).map _).length) * 8 ≤ _; rw [List.length_map, rows64_len]; omega
  · show 0 + ((rows64 ws).map _).length ≤ _; rw [List.length_map, rows64_len]; omega
  · show R.toNat = 0 + ((rows64 ws).map _).length; rw [List.length_map, rows64_len]; omega
  · show rowsI ws = _; rw [rowsI_cells]; rfl
  · show 0 + R.toNat ≤ _; rw [rows64_len]; omega
  · refine .hide (es' := rows64 ws) rfl (TELs.of ?_)
    show ((rows64 ws).drop 0).take R.toNat = _
    rw [List.drop_zero, List.take_of_length_le (by rw [rows64_len]; omega)]
  cbv
  refine hsh.call (.cons (.pure rfl) (.cons (.pure rfl) .nil)) rfl ?_
  cbv
  refine hrs.call (.cons (.pure rfl) (.cons (.pure rfl) .nil)) rfl ?_
  cbv
  refine (lives_ret hP).call .nil rfl ?_
  cbv
  refine hs1.call (.cons (.pure rfl) (.cons (.pure rfl) .nil)) rfl ?_
  cbv
  refine BrS.t (by simp) ?_
  cbv
  refine BrS.t (by simp [icmp]) ?_
  cbv
  refine hs2.call (.cons (.pure rfl) (.cons (.pure rfl) .nil)) rfl ?_
  cbv
  exact ⟨_, rfl, by simp⟩
end Go.Proofs.YtchbobndobpocaaDoor
