/- The law MoneyWhole. -/
import Derived.Test.YtchbobndobpocaaDoorMo18
namespace Go.Proofs.YtchbobndobpocaaDoor
open Go.Abs Go.IntWalk Go.Money
variable {P : Program} (hP : P = Tryd.prog)

/-- What the law asks of shares. -/
theorem whole_facts {T : Int} {ws : List Int} (h : shareE T ws = 0) : (shareV T ws).length = ws.length ∧ (shareV T ws).sum = T ∧ (∀ x ∈ shareV T ws, 0 ≤ x ∧ x ≤ T) ∧
    (∀ (i : Nat) x w, (shareV T ws)[i]? = some x → ws[i]? = some w → w = 0 → x = 0) ∧
    (∀ (i k : Nat) x y v w, (shareV T ws)[i]? = some x → (shareV T ws)[k]? = some y → ws[i]? = some v → ws[k]? = some w → v < w → x - 1 ≤ y) := by
  obtain ⟨h1, h2, h3, h4, h5⟩ := shareE_ok h
  have hv : shareV T ws = shareL T ws := by unfold shareV; rw [if_pos h]
  rw [hv]
  refine ⟨shareL_len _ _, shareL_sum h2 h4, shareL_in h2 h4 h3, fun i x w hx hw h0 => ?_, fun i k x y v w hx hy hv' hw hlt => ?_⟩
  · obtain ⟨z, z1, z2⟩ := shareL_get (T := T) hw
    rw [hx] at z1; obtain rfl := Option.some.inj z1
    subst h0
    rw [fl_zero] at z2
    omega
  · obtain ⟨z, z1, z2⟩ := shareL_get (T := T) hv'
    rw [hx] at z1; obtain rfl := Option.some.inj z1
    obtain ⟨u, u1, u2⟩ := shareL_get (T := T) hw
    rw [hy] at u1; obtain rfl := Option.some.inj u1
    have := fl_mono (T := T) (S := ws.sum) h3 h4 (show v ≤ w by omega)
    omega

include hP
set_option maxRecDepth 100000 in
set_option maxHeartbeats 8000000 in
theorem moneyWhole_law : Law P td 8 [2, 22] := by
  intro xs hx
  obtain ⟨x, ys, rfl, h1, h2⟩ := fitVs_cons hx
  obtain ⟨y, zs, rfl, h3, h4⟩ := fitVs_cons h2
  obtain rfl := fitVs_nil h4
  obtain ⟨T, rfl, hT⟩ := fit64 h1
  obtain ⟨ws, rfl, hw64, hlen8⟩ := fit64t h3
  clear hx h1 h2 h3 h4
  have hlen : ws.length ≤ 1000000000000000 := by omega
  have hsh := share_ret hP T ws hT hw64 hlen
  obtain ⟨hv1, hv2⟩ := shareV_64 (ws := ws) hT
  have hsum := Sum_ret hP (shareV T ws) hv1 (by omega)
  have hwf := whole_facts (T := T) (ws := ws)
  have hwe : shareE T ws ≠ 0 → shareV T ws = [] := fun h => by unfold shareV; rw [if_neg h]
  obtain ⟨L, hL⟩ : ∃ L, shareV T ws = L := ⟨_, rfl⟩
  obtain ⟨e, he⟩ : ∃ e, shareE T ws = e := ⟨_, rfl⟩
  rw [hL] at hv1 hv2 hsum hwe
  simp only [hL] at hwf
  rw [he] at hwf hwe
  unfold shY at hsh
  rw [hL, he] at hsh
  obtain ⟨R, hR, hR0, hR1⟩ : ∃ R : Int, R = (L.length : Int) ∧ 0 ≤ R ∧ R ≤ 4096 := ⟨_, rfl, by omega, by omega⟩
  have hr : ((Abs.T.vslS 1 fun _ => Abs.T.vsl 1 (rows64 L)).rows.length : Int) = R := by rw [rows_len64, hR]
  have hRn : R.toNat = L.length := by omega
  refine e8 hP ?_
  cbv
  refine (lives_ret hP).call .nil rfl ?_
  cbv
  refine hsh.call (.cons (.pure rfl) (.cons (.pure rfl) .nil)) rfl ?_
  cbv
  by_cases h0 : e = 0
  rotate_left
  · refine BrS.t (by simp [icmp, h0]) ?_
    cbv
    refine ⟨_, rfl, ?_⟩
    show icmp .eql (((Abs.T.vslS 1 fun _ => Abs.T.vsl 1 (rows64 L)).rows.length : Int)) 0 = true
    rw [rows_len64, hwe h0]; rfl
  refine BrS.f (by simp [icmp, h0]) ?_
  cbv
  obtain ⟨w1, w2, w3, w4, w5⟩ := hwf h0
  have hrw : ((Abs.T.vslS 1 fun _ => Abs.T.vsl 1 (rows64 ws)).rows.length : Int) = R := by rw [rows_len64]; omega
  have hRw : R.toNat = ws.length := by omega
  have hse : sumE L = 0 ∧ sumV L = T := by
    unfold sumE sumV
    rw [if_neg (by omega), if_neg (by omega), w2, okE_ok hT, okV_ok hT]
    exact ⟨rfl, rfl⟩
  have gL : ∀ i : Int, 0 ≤ i → i < R → ∃ x, L[i.toNat]? = some x ∧ 0 ≤ x ∧ x ≤ T := fun i i0 i1 => by
    have h : i.toNat < L.length := by omega
    exact ⟨L[i.toNat], List.getElem?_eq_getElem h, w3 _ (List.getElem_mem h)⟩
  have gw : ∀ i : Int, 0 ≤ i → i < R → ∃ w, ws[i.toNat]? = some w := fun i i0 i1 => by
    have h : i.toNat < ws.length := by omega
    exact ⟨ws[i.toNat], List.getElem?_eq_getElem h⟩
  clear hwf hwe hsh w3
  refine BrS.f (by simp only [hr, hrw]; simp [icmp]) ?_
  cbv
  refine hsum.call (.cons (.pure rfl) .nil) rfl ?_
  cbv
  refine BrS.f (by simp [icmp, hse.1]) ?_
  cbv
  refine BrS.f (by simp [icmp, hse.2]) ?_
  cbv
  let E : Int → List AV := fun i => sp 99 [(1, list64 ws), (5, list64 L), (43, list64 L), (44, AI .i64 (.th fun _ => R)), (45, AI .i64 (.th fun _ => i))]
  refine ACode.cut (fun x e o => x = .exit 0 ∧ e = E R ∧ o = []) ?loop ?rest
  case loop =>
    refine ACode.inv (ty hP) (fun n e o => ∃ i, 0 ≤ i ∧ i ≤ R ∧ n = (R - i).toNat ∧ e = E i ∧ o = []) R.toNat (E 0) []
      (Ren.sp [] rfl rfl rfl (.cons rfl (.pure rfl) (.cons rfl (.pure rfl) (.cons rfl (.pure rfl) (.cons rfl (.int hr) (.cons rfl (.int rfl) .nil))))) .nil)
      ⟨0, by omega, by omega, by simp, rfl, rfl⟩ ?_
    rintro n e o ⟨i, i0, i1, rfl, rfl, rfl⟩ J hJ
    cbv
    refine BrS.mk (fun k1 => ?_) (fun k1 => ?_) <;> cbv
    · have k1 : i < R := by simpa [icmp] using k1
      obtain ⟨x, hx, x0, x1⟩ := gL i i0 k1
      obtain ⟨w, hw⟩ := gw i i0 k1
      refine NthS.mk _ i0 (rows64_get L _ x hx) ?_
      cbv
      refine BrS.f (decide_eq_false (by omega)) ?_
      cbv
      refine NthS.mk _ i0 (rows64_get ws _ w hw) ?_
      cbv
      have fin : ∀ {e : List AV}, lenL e = 99 → nth e 1 = some (list64 ws) → nth e 5 = some (list64 L) → nth e 43 = some (list64 L) → nth e 44 = some (AI .i64 (.th fun _ => R)) → nth e 45 = some (AI .i64 (.th fun _ => iop .add .i64 i 1)) → J e [] := fun l n1 n5 n43 n44 n45 =>
        hJ (R - (i + 1)).toNat _ _ (E (i + 1)) [] (by omega) (Ren.sp [] rfl rfl l (.cons n1 (.pure rfl) (.cons n5 (.pure rfl) (.cons n43 (.pure rfl) (.cons n44 (.pure rfl) (.cons n45 (.int (by simp only [Th.den_th, iop, wrap64]; omega)) .nil))))) .nil) ⟨i + 1, by omega, by omega, rfl, rfl, rfl⟩
      by_cases hz : w = 0
      · refine BrS.t (by simp [icmp, hz]) ?_
        cbv
        refine BrS.f (by simp [icmp, w4 _ x w hx hw hz]) ?_
        cbv
        exact fin rfl rfl rfl rfl rfl rfl
      · refine BrS.f (by simp [icmp, hz]) ?_
        cbv
        exact fin rfl rfl rfl rfl rfl rfl
    · have k1 : ¬ i < R := by simpa [icmp] using k1
      obtain rfl : i = R := by omega
      exact ⟨_, _, Ren.sp [] rfl rfl rfl (.cons rfl (.pure rfl) (.cons rfl (.pure rfl) (.cons rfl (.pure rfl) (.cons rfl (.pure rfl) (.cons rfl (.pure rfl) .nil))))) .nil, rfl, rfl, rfl⟩
  case rest =>
  rintro x e o ⟨rfl, rfl, rfl⟩
  cbv
  let E2 : Int → List AV := fun i => sp 99 [(1, list64 ws), (5, list64 L), (65, AI .i64 (.th fun _ => R)), (66, AI .i64 (.th fun _ => i))]
  let EX : List AV := sp 99 []
  refine ACode.cut (fun x e o => x = .exit 2 ∧ e = EX ∧ o = []) ?loop2 ?rest2
  case loop2 =>
    refine ACode.inv (ty hP) (fun n e o => ∃ i, 0 ≤ i ∧ i ≤ R ∧ n = (R - i).toNat ∧ e = E2 i ∧ o = []) R.toNat (E2 0) []
      (Ren.sp [] rfl rfl rfl (.cons rfl (.pure rfl) (.cons rfl (.pure rfl) (.cons rfl (.int hr) (.cons rfl (.int rfl) .nil)))) .nil)
      ⟨0, by omega, by omega, by simp, rfl, rfl⟩ ?_
    rintro n e o ⟨i, i0, i1, rfl, rfl, rfl⟩ J hJ
    cbv
    refine BrS.mk (fun k1 => ?_) (fun k1 => ?_) <;> cbv
    · have k1 : i < R := by simpa [icmp] using k1
      obtain ⟨x, hx, x0, x1⟩ := gL i i0 k1
      obtain ⟨v, hv⟩ := gw i i0 k1
      let E3 : Int → List AV := fun k => sp 99 [(1, list64 ws), (5, list64 L), (11, AI .i64 (.th fun _ => i)), (65, AI .i64 (.th fun _ => R)), (66, AI .i64 (.th fun _ => i)), (70, AI .i64 (.th fun _ => R)), (71, AI .i64 (.th fun _ => k))]
      refine ACode.cut (fun x e o => x = .exit 4 ∧ e = E3 R ∧ o = []) ?loop3 ?rest3
      case loop3 =>
        refine ACode.inv (ty hP) (fun n e o => ∃ k, 0 ≤ k ∧ k ≤ R ∧ n = (R - k).toNat ∧ e = E3 k ∧ o = []) R.toNat (E3 0) []
          (Ren.sp [] rfl rfl rfl (.cons rfl (.pure rfl) (.cons rfl (.pure rfl) (.cons rfl (.pure rfl) (.cons rfl (.pure rfl) (.cons rfl (.pure rfl) (.cons rfl (.int hr) (.cons rfl (.int rfl) .nil))))))) .nil)
          ⟨0, by omega, by omega, by simp, rfl, rfl⟩ ?_
        rintro n e o ⟨k, m0, m1, rfl, rfl, rfl⟩ J2 hJ2
        cbv
        refine BrS.mk (fun k2 => ?_) (fun k2 => ?_) <;> cbv
        · have k2 : k < R := by simpa [icmp] using k2
          obtain ⟨y, hy, y0, y1⟩ := gL k m0 k2
          obtain ⟨w, hw⟩ := gw k m0 k2
          have fin : ∀ {e : List AV}, lenL e = 99 → nth e 1 = some (list64 ws) → nth e 5 = some (list64 L) → nth e 11 = some (AI .i64 (.th fun _ => i)) → nth e 65 = some (AI .i64 (.th fun _ => R)) → nth e 66 = some (AI .i64 (.th fun _ => i)) → nth e 70 = some (AI .i64 (.th fun _ => R)) → nth e 71 = some (AI .i64 (.th fun _ => iop .add .i64 k 1)) → J2 e [] := fun l n1 n5 n11 n65 n66 n70 n71 =>
            hJ2 (R - (k + 1)).toNat _ _ (E3 (k + 1)) [] (by omega) (Ren.sp [] rfl rfl l (.cons n1 (.pure rfl) (.cons n5 (.pure rfl) (.cons n11 (.pure rfl) (.cons n65 (.pure rfl) (.cons n66 (.pure rfl) (.cons n70 (.pure rfl) (.cons n71 (.int (by simp only [Th.den_th, iop, wrap64]; omega)) .nil))))))) .nil) ⟨k + 1, by omega, by omega, rfl, rfl, rfl⟩
          refine ADraw.eff (ty hP) (mo hP) rfl ?_
          cbv
          iterate 8
            (apply DOp.is
             · intro J hJ
               cbv
               first
               | exact hJ
               | (refine NthS.mk _ i0 (rows64_get ws _ _ hv) ?_
                  cbv
                  exact hJ)
               | (refine NthS.mk _ m0 (rows64_get ws _ _ hw) ?_
                  cbv
                  exact hJ)
             cbv)
          by_cases hvw : v < w
          · have hxy := w5 i.toNat k.toNat x y v w hx hy hv hw hvw
            apply DOp.as _ (AB (.lit true))
            · intro J hJ; cbv; exact hJ
            · exact .bool (decide_eq_true hvw)
            cbv
            iterate 12
              (apply DOp.is
               · intro J hJ
                 cbv
                 first
                 | exact hJ
                 | (refine NthS.mk _ i0 (rows64_get L _ _ hx) ?_
                    cbv
                    exact hJ)
                 | (refine NthS.mk _ m0 (rows64_get L _ _ hy) ?_
                    cbv
                    exact hJ)
               cbv)
            refine BrS.f (by simp only [icmp, iop, wrap64]; exact decide_eq_false (by omega)) ?_
            cbv
            exact fin rfl rfl rfl rfl rfl rfl rfl rfl
          · apply DOp.as _ (AB (.lit false))
            · intro J hJ; cbv; exact hJ
            · exact .bool (decide_eq_false hvw)
            cbv
            iterate 2
              (apply DOp.is
               · intro J hJ
                 cbv
                 exact hJ
               cbv)
            exact fin rfl rfl rfl rfl rfl rfl rfl rfl
        · have k2 : ¬ k < R := by simpa [icmp] using k2
          obtain rfl : k = R := by omega
          exact ⟨_, _, Ren.sp [] rfl rfl rfl (.cons rfl (.pure rfl) (.cons rfl (.pure rfl) (.cons rfl (.pure rfl) (.cons rfl (.pure rfl) (.cons rfl (.pure rfl) (.cons rfl (.pure rfl) (.cons rfl (.pure rfl) .nil))))))) .nil, rfl, rfl, rfl⟩
      case rest3 =>
      rintro x e o ⟨rfl, rfl, rfl⟩
      cbv
      refine BrS.mk (fun k2 => ?_) (fun k2 => ?_) <;> cbv
      · exact ⟨_, _, Ren.sp [] rfl rfl rfl .nil .nil, rfl, rfl, rfl⟩
      · exact hJ (R - (i + 1)).toNat _ _ (E2 (i + 1)) [] (by omega) (Ren.sp [] rfl rfl rfl (.cons rfl (.pure rfl) (.cons rfl (.pure rfl) (.cons rfl (.pure rfl) (.cons rfl (.int (by simp only [Th.den_th, iop, wrap64]; omega)) .nil)))) .nil) ⟨i + 1, by omega, by omega, rfl, rfl, rfl⟩
    · exact ⟨_, _, Ren.sp [] rfl rfl rfl .nil .nil, rfl, rfl, rfl⟩
  case rest2 =>
  rintro x e o ⟨rfl, rfl, rfl⟩
  cbv
  exact ⟨_, rfl, rfl⟩
end Go.Proofs.YtchbobndobpocaaDoor
