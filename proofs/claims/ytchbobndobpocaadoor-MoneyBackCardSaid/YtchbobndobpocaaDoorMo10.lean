/- The law MoneyLines. -/
import Derived.Test.YtchbobndobpocaaDoorMo9
namespace Go.Proofs.YtchbobndobpocaaDoor
open Go.Abs Go.IntWalk Go.Money
variable {P : Program} (hP : P = Tryd.prog)

theorem fit3 {x : AV} (h : FitV td 3 x) : ∃ n, x = AI .i64 (.th fun _ => n) ∧ I64 n := by
  obtain ⟨d, l, hd, hf, rfl⟩ := h
  obtain ⟨n, rfl, hw⟩ := fit_int hd (by cases hd; rfl) hf
  refine ⟨n, by cases hd; rfl, ?_⟩
  simp only [Lit.wf, Bool.and_eq_true, decide_eq_true_eq] at hw
  exact hw
def lnAt (l : List Ln) (k : Nat) : Ln := l.getD k ⟨0, 0, 0, 0⟩
theorem lnAt_get {l : List Ln} {k : Nat} (h : k < l.length) : l[k]? = some (lnAt l k) := by
  simp [lnAt, List.getD, List.getElem?_eq_getElem h]
/-- Where a turned list's i-th stands. -/
def tix (n : Nat) (c : Int) (i : Nat) : Nat := (i + (c.tmod n + n).toNat) % n
def turned (l : List Ln) (c : Int) (i : Nat) : List Ln := (List.range i).map fun j => lnAt l (tix l.length c j)
theorem turned_len (l : List Ln) (c : Int) (i : Nat) : (turned l c i).length = i := by simp [turned]
theorem turned_snoc (l : List Ln) (c : Int) (i : Nat) : turned l c (i + 1) = turned l c i ++ [lnAt l (tix l.length c i)] := by simp [turned, List.range_succ]
theorem tix_lt {n : Nat} {c : Int} {i : Nat} (h : 0 < n) : tix n c i < n := Nat.mod_lt _ h
theorem tix_is {R c i : Int} (n : Nat) (hR : R = n) (h0 : 0 ≤ i) (h1 : i < R) (hc : I64 c) (h16 : R ≤ 16) :
    iop .rem .i64 (iop .add .i64 (iop .add .i64 i (iop .rem .i64 c R)) R) R = tix n c i.toNat := by
  have hb : -R < c.tmod R ∧ c.tmod R < R := by
    have := Int.natAbs_tmod c R
    have h2 := Nat.mod_lt c.natAbs (show 0 < R.natAbs by omega)
    omega
  have hT : R.toNat = n := by omega
  unfold tix
  rw [← hR]
  simp only [iop, wrap64]
  generalize c.tmod R = t at *
  rw [show (i + t + 9223372036854775808) % 18446744073709551616 - 9223372036854775808 = i + t by omega, show (i + t + R + 9223372036854775808) % 18446744073709551616 - 9223372036854775808 = i + t + R by omega]
  rw [Int.tmod_eq_emod_of_nonneg (by omega), hR]
  rw [Int.natCast_emod]
  congr 1
  omega
theorem turned_mem {l : List Ln} {c : Int} {i : Nat} {x : Ln} (hx : x ∈ turned l c i) (h : i ≤ l.length) : x ∈ l := by
  simp only [turned, List.mem_map, List.mem_range] at hx
  obtain ⟨j, hj, rfl⟩ := hx
  exact List.mem_of_getElem? (lnAt_get (tix_lt (n := l.length) (by omega)))
theorem prods_range (l : List Ln) : prods l = (List.range l.length).map fun j => (lnAt l j).pr := by
  refine List.ext_getElem? fun j => ?_
  simp only [prods, List.getElem?_map]
  rcases Nat.lt_or_ge j l.length with h | h
  · rw [lnAt_get h, List.getElem?_range h]; rfl
  · rw [List.getElem?_eq_none h, List.getElem?_eq_none (by simpa using h)]; rfl
theorem turned_total (l : List Ln) (c : Int) : (prods (turned l c l.length)).sum = (prods l).sum := by
  rcases Nat.eq_zero_or_pos l.length with h | h
  · rw [h]; have := List.length_eq_zero_iff.1 h; subst this; simp [turned, prods]
  · have h1 := turned_sum (fun j => (lnAt l j).pr) l.length ((c.tmod l.length + l.length).toNat % l.length) (Nat.mod_lt _ h)
    rw [prods_range l, ← h1]
    simp only [prods, turned, List.map_map, Function.comp_def, tix, Nat.add_mod_mod]
theorem turned_tot (l : List Ln) (c : Int) : totE (turned l c l.length) = totE l ∧ totV (turned l c l.length) = totV l ∨ (∃ x ∈ l, x.bad) := by
  by_cases hb : ∃ x ∈ l, x.bad
  · exact .inr hb
  · left
    have h2 : ¬ ∃ x ∈ turned l c l.length, x.bad := fun ⟨x, hx, h⟩ => hb ⟨x, turned_mem hx (Nat.le_refl _), h⟩
    unfold totE totV
    rw [turned_len, if_neg hb, if_neg h2, if_neg hb, if_neg h2, turned_total]
    exact ⟨rfl, rfl⟩
abbrev Ln.cs (x : Ln) : List AV := [.c (.int .i64 (.th fun _ => x.item)), .c (.int .i64 (.th fun _ => x.ware)), .c (.int .i64 (.th fun _ => x.qty)), .c (.int .i64 (.th fun _ => x.unit))]
def rowsN (l : List Ln) : List (List AV) := l.map Ln.cs
theorem rowsN_pure (l : List Ln) : ∀ e ∈ rowsN l, pureL e = true := by
  intro e he
  simp only [rowsN, List.mem_map] at he
  obtain ⟨n, _, rfl⟩ := he
  rfl
theorem rowsN_wide (l : List Ln) : ∀ e ∈ rowsN l, e.length = 4 := by
  intro e he
  simp only [rowsN, List.mem_map] at he
  obtain ⟨n, _, rfl⟩ := he
  rfl
theorem rowsN_len (l : List Ln) : (rowsN l).length = l.length := by simp [rowsN]
theorem rowsN_cells (l : List Ln) : rowsN l = (rowsL l).map (fun e => e.map AV.c) := by simp [rowsN, rowsL, List.map_map, Function.comp_def]
abbrev NArr (l : List Ln) (c : Nat) : AO := .arr 4 (.th fun _ => rowsN l) (.th fun _ => c * 4)
theorem tot_ok {l : List Ln} (h : totE l = 0) : l.length ≤ 16 ∧ (∀ x ∈ l, ¬ x.bad) ∧ I64 (prods l).sum ∧ totV l = (prods l).sum := by
  unfold totE at h
  split at h
  · cases h
  rename_i h1
  split at h
  · cases h
  rename_i h2
  have h3 := okE_zero.1 h
  refine ⟨by omega, fun x hx hb => h2 ⟨x, hx, hb⟩, h3, ?_⟩
  unfold totV
  rw [if_neg h1, if_neg h2, okV_ok h3]
theorem tot_bad {l : List Ln} (h : totE l ≠ 0) : totV l = 0 := by
  unfold totE at h; unfold totV
  split
  · rfl
  rename_i h1; rw [if_neg h1] at h
  split
  · rfl
  rename_i h2; rw [if_neg h2] at h
  unfold okV; rw [if_neg fun h3 => h (okE_zero.2 h3)]
theorem pr_in {x : Ln} (h : ¬ x.bad) : 0 ≤ x.pr ∧ x.pr ≤ 1152921504606846976 := by
  have b1 : 0 ≤ x.qty * x.unit := Int.mul_nonneg (by omega) (by omega)
  have b2 : x.qty * x.unit ≤ 1048576 * 1099511627776 := Int.mul_le_mul (by omega) (by omega) (by omega) (by omega)
  unfold Ln.pr
  omega

include hP
set_option maxRecDepth 100000 in
set_option maxHeartbeats 8000000 in
theorem moneyLines_law : Law P td 11 [37, 3] := by
  intro xs hx
  obtain ⟨x, ys, rfl, h1, h2⟩ := fitVs_cons hx
  obtain ⟨y, zs, rfl, h3, h4⟩ := fitVs_cons h2
  obtain rfl := fitVs_nil h4
  obtain ⟨l, rfl, hl⟩ := fitL h1
  obtain ⟨c, rfl, hc⟩ := fit3 h3
  clear hx h1 h2 h3 h4
  obtain ⟨R, hR, hR0⟩ : ∃ R : Int, R = (l.length : Int) ∧ 0 ≤ R := ⟨_, rfl, by omega⟩
  have hr : ((T.vslS 4 fun _ => T.vsl 4 (rowsL l)).rows.length : Int) = R := by simp [T.rows, rowsL, hR]
  have hRn : R.toNat = l.length := by omega
  refine e11 hP ?_
  cbv
  refine (lives_ret hP).call .nil rfl ?_
  cbv
  refine (total_ret hP l).call (.cons (.pure rfl) .nil) rfl ?_
  cbv
  refine BrS.mk (fun h => ?_) (fun h => ?_) <;> cbv
  · have h : totE l ≠ 0 := by simpa [icmp] using h
    exact ⟨_, rfl, by simp [icmp, tot_bad h]⟩
  have h0 : totE l = 0 := by simpa [icmp] using h
  obtain ⟨o1, o2, o3, o4⟩ := tot_ok h0
  have hpl : ∀ i, (prods (l.take i)).length = min i l.length := by simp [prods]
  let E : Int → Nat → Nat → List AV := fun i c1 c2 => sp 99 [(0, listL l), (1, AI .i64 (.th fun _ => c)), (5, AI .i64 (.th fun _ => totV l)), (7, .sl 0 1 (.lit 0) (.th fun _ => i.toNat) (.th fun _ => c1)), (8, .sl 1 4 (.lit 0) (.th fun _ => i.toNat) (.th fun _ => c2)), (29, AI .i64 (.th fun _ => R)), (30, AI .i64 (.th fun _ => i))]
  let O : Int → Nat → Nat → List AO := fun i c1 c2 => [IArr (prods (l.take i.toNat)) c1, NArr (turned l c i.toNat) c2]
  refine ACode.cut (fun x e o => ∃ c1 c2, R.toNat ≤ c1 ∧ R.toNat ≤ c2 ∧ x = .exit 0 ∧ e = E R c1 c2 ∧ o = O R c1 c2) ?loop ?rest
  case loop =>
    refine ACode.inv (ty hP) (fun n e o => ∃ i c1 c2, 0 ≤ i ∧ i ≤ R ∧ i.toNat ≤ c1 ∧ i.toNat ≤ c2 ∧ n = (R - i).toNat ∧ e = E i c1 c2 ∧ o = O i c1 c2) R.toNat (E 0 0 0) (O 0 0 0)
      (Ren.sp [1000, 1001] rfl rfl rfl (.cons rfl (.pure rfl) (.cons rfl (.pure rfl) (.cons rfl (.pure rfl) (.cons rfl (.nilS (q := 0) rfl rfl rfl rfl) (.cons rfl (.nilS (q := 1) rfl rfl rfl rfl) (.cons rfl (.int hr) (.cons rfl (.int rfl) .nil))))))) (.kill rfl ⟨by simp [rowsI, prods], by simp⟩ (.kill rfl ⟨by simp [rowsN, turned], by simp⟩ .nil)))
      ⟨0, 0, 0, by omega, by omega, by omega, by omega, by simp, rfl, rfl⟩ ?_
    rintro n e o ⟨i, c1, c2, i0, i1, ic1, ic2, rfl, rfl, rfl⟩ J hJ
    cbv
    refine BrS.mk (fun h1 => ?_) (fun h1 => ?_) <;> cbv
    · have h1 : i < R := by simpa [icmp] using h1
      have hi : i.toNat < l.length := by omega
      have hx : l[i.toNat]? = some (lnAt l i.toNat) := lnAt_get hi
      have hxm : lnAt l i.toNat ∈ l := List.mem_of_getElem? hx
      have hxb := o2 _ hxm
      have hpr := pr_in hxb
      obtain ⟨k, hk, k0, kn⟩ : ∃ k : Int, iop .rem .i64 (iop .add .i64 (iop .add .i64 i (iop .rem .i64 c R)) R) R = k ∧ 0 ≤ k ∧ k.toNat = tix l.length c i.toNat := ⟨_, tix_is l.length (by exact hR) i0 h1 hc (by omega), by omega, by omega⟩
      have hklt : tix l.length c i.toNat < l.length := tix_lt (by omega)
      have hne : (R != 0) = true := by simp; omega
      refine MustS.mk (by simp only [hr]; exact hne) ?_
      cbv
      refine MustS.mk (by simp only [hr]; exact hne) ?_
      cbv
      refine NthS.mk (lnAt l (tix l.length c i.toNat)).ts (by simp only [hr, Th.den_th, hk]; exact k0) (by simp only [hr, Th.den_th, hk, kn]; exact rowsL_get l _ _ (lnAt_get hklt)) ?_
      cbv
      refine append_own (ty hP) (e := 41) rfl rfl rfl (by simp) rfl rfl (by decide) rfl ?_ rfl ?_ (Src.sl (und_slice (ty hP) (e := 41) rfl rfl) (es := .lit [(lnAt l (tix l.length c i.toNat)).cs]) (sz := .lit 4) rfl (by simp) (by simp)) ?_ ?_ (.th fun _ => (i + 1).toNat) (.th fun _ => rowsN (turned l c (i + 1).toNat)) ?_ ?_ (fun c2' hc2 => ?_)
      · show i.toNat ≤ (rowsN _).length
        rw [rowsN_len, turned_len]; omega
      · exact rowsN_wide _
      · show (i.toNat + 1) * 32 ≤ _; omega
      · show i.toNat + 1 ≤ _; omega
      · show (i + 1).toNat = i.toNat + 1; omega
      · simp only [Th.den_th, Th.den_lit]
        rw [show (i + 1).toNat = i.toNat + 1 by omega, turned_snoc, List.take_of_length_le (l := rowsN _) (by rw [rowsN_len, turned_len]; omega)]
        simp [rowsN]
      cbv
      refine ADraw.eff (ty hP) (mo hP) rfl ?_
      cbv
      iterate 10
        (apply DOp.is
         · intro J hJ
           cbv
           first
           | exact hJ
           | (refine NthS.mk _ i0 (rowsL_get l _ _ hx) ?_
              cbv
              exact hJ)
         cbv)
      have hm64 : I64 ((lnAt l i.toNat).qty * (lnAt l i.toNat).unit) := by
        have : (lnAt l i.toNat).qty * (lnAt l i.toNat).unit = (lnAt l i.toNat).pr := rfl
        rw [this]; omega
      refine (mul_ret hP (lnAt l i.toNat).qty (lnAt l i.toNat).unit (by omega) (by omega)).as (.tup [AI .i64 (.th fun _ => (lnAt l i.toNat).pr), AI .i64 (.lit 0)]) (.tup' (.cons (.int (okV_ok hm64)) (.cons (.int (okE_ok hm64)) .nil))) (.cons (.pure rfl) (.cons (.pure rfl) .nil)) rfl ?_
      cbv
      iterate 5 (apply DOp.is; · intro J hJ; cbv; exact hJ
                 cbv)
      refine append_own (ty hP) (e := 2) rfl rfl rfl (by simp) rfl rfl (by decide) rfl ?_ rfl ?_ (Src.sl (und_slice (ty hP) (e := 2) rfl rfl) (es := .lit [[AI .i64 (.th fun _ => (lnAt l i.toNat).pr)]]) (sz := .lit 1) rfl (by simp) (by simp)) ?_ ?_ (.th fun _ => (i + 1).toNat) (.th fun _ => rowsI (prods (l.take (i + 1).toNat))) ?_ ?_ (fun c1' hc1 => ?_)
      · show i.toNat ≤ (rowsI _).length
        rw [rowsI_len, hpl]; omega
      · exact rowsI_wide _
      · show (i.toNat + 1) * 8 ≤ _; omega
      · show i.toNat + 1 ≤ _; omega
      · show (i + 1).toNat = i.toNat + 1; omega
      · simp only [Th.den_th, Th.den_lit]
        rw [show (i + 1).toNat = i.toNat + 1 by omega, prods_take l _ _ hx, rowsI_snoc, List.take_of_length_le (l := rowsI _) (by rw [rowsI_len, hpl]; omega)]
        rfl
      cbv
      refine hJ (R - (i + 1)).toNat _ _ (E (i + 1) c1' c2') (O (i + 1) c1' c2') (by omega) (Ren.sp [5, 3] rfl rfl rfl (.cons rfl (.pure rfl) (.cons rfl (.pure rfl) (.cons rfl (.pure rfl) (.cons rfl (.sl (q := 0) rfl rfl rfl rfl) (.cons rfl (.sl (q := 1) rfl rfl rfl rfl) (.cons rfl (.pure rfl) (.cons rfl (.int ?_) .nil))))))) (.cons rfl (.arrEq rfl (rowsI_pure _) rfl) (.cons rfl (.arrEq rfl (rowsN_pure _) rfl) .nil))) ⟨i + 1, c1', c2', by omega, by omega, hc1, hc2, rfl, rfl, rfl⟩
      simp only [Th.den_th, iop, wrap64]; omega
    · have h1 : ¬ i < R := by simpa [icmp] using h1
      obtain rfl : i = R := by omega
      exact ⟨_, _, Ren.sp [0, 1] rfl rfl rfl (.cons rfl (.pure rfl) (.cons rfl (.pure rfl) (.cons rfl (.pure rfl) (.cons rfl (.sl (q := 0) rfl rfl rfl rfl) (.cons rfl (.sl (q := 1) rfl rfl rfl rfl) (.cons rfl (.pure rfl) (.cons rfl (.pure rfl) .nil))))))) (.cons rfl (.arrEq rfl (rowsI_pure _) rfl) (.cons rfl (.arrEq rfl (rowsN_pure _) rfl) .nil)), c1, c2, ic1, ic2, rfl, rfl, rfl⟩
  case rest =>
    rintro x e o ⟨c1, c2, hc1, hc2, rfl, rfl, rfl⟩
    have h64 : All64 (prods l) := by
      intro n hn
      simp only [prods, List.mem_map] at hn
      obtain ⟨y, hy, rfl⟩ := hn
      have := pr_in (o2 y hy)
      omega
    have hl2 : (prods l).length = l.length := by simp [prods]
    have hs := Sum_ret hP (prods l) h64 (by omega)
    have ht := total_ret hP (turned l c l.length)
    have hte : totE (turned l c l.length) = 0 ∧ totV (turned l c l.length) = totV l := by
      rcases turned_tot l c with ⟨h1, h2⟩ | ⟨x, hx, hb⟩
      · exact ⟨h1.trans h0, h2⟩
      · exact absurd hb (o2 x hx)
    have hse : sumE (prods l) = 0 ∧ sumV (prods l) = totV l := by
      unfold sumE sumV
      rw [if_neg (by omega), if_neg (by omega), okE_ok o3, okV_ok o3, o4]
      exact ⟨rfl, rfl⟩
    cbv
    refine hs.lend (.cons (.slS (rows64 (prods l)) _ rfl ?_ ?_ ?_) .nil) rfl ?_
    · show rowsI (prods (l.take R.toNat)) = _
      rw [hRn, List.take_length, rowsI_cells]
    · show 0 + R.toNat ≤ _
      rw [rows64_len]; omega
    · show T.vsl 1 (rows64 (prods l)) = .vsl 1 (((rows64 (prods l)).drop 0).take R.toNat)
      rw [List.drop_zero, List.take_of_length_le (by rw [rows64_len]; omega)]
    cbv
    refine ht.lend (.cons (.slS (rowsL (turned l c l.length)) _ rfl ?_ ?_ ?_) .nil) rfl ?_
    · show rowsN (turned l c R.toNat) = _
      rw [hRn, rowsN_cells]
    · show 0 + R.toNat ≤ (rowsL _).length
      unfold rowsL; rw [List.length_map, turned_len]; omega
    · show T.vsl 4 (rowsL (turned l c l.length)) = .vsl 4 (((rowsL (turned l c l.length)).drop 0).take R.toNat)
      rw [List.drop_zero, List.take_of_length_le (by unfold rowsL; rw [List.length_map, turned_len]; omega)]
    cbv
    refine BrS.t (by simp [icmp, hse.1]) ?_
    cbv
    refine BrS.t (by simp [icmp, hse.2]) ?_
    cbv
    refine BrS.t (by simp [icmp, hte.1]) ?_
    cbv
    exact ⟨_, rfl, by simp [icmp, hte.2]⟩
end Go.Proofs.YtchbobndobpocaaDoor
