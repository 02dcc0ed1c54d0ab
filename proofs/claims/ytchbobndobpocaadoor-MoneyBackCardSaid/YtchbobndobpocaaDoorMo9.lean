/- Totals of lines: the program's and the document's; the laws MoneyTotals, MoneyLines. -/
import Derived.Test.YtchbobndobpocaaDoorMo8
namespace Go.Proofs.YtchbobndobpocaaDoor
open Go.Abs Go.IntWalk Go.Money
variable {P : Program} (hP : P = Tryd.prog)

structure Ln where
  item : Int
  ware : Int
  qty : Int
  unit : Int
abbrev Ln.ts (x : Ln) : List T := [.int .i64 (.th fun _ => x.item), .int .i64 (.th fun _ => x.ware), .int .i64 (.th fun _ => x.qty), .int .i64 (.th fun _ => x.unit)]
def Ln.pr (x : Ln) : Int := x.qty * x.unit
abbrev Ln.bad (x : Ln) : Prop := x.qty < 1 ∨ x.qty > 1048576 ∨ x.unit < 0 ∨ x.unit > 1099511627776
def rowsL (l : List Ln) : List (List T) := l.map Ln.ts
abbrev listL (l : List Ln) : AV := .c (.vslS 4 fun _ => .vsl 4 (rowsL l))
theorem rowsL_get (l : List Ln) (i : Nat) (x : Ln) (h : l[i]? = some x) : (rowsL l)[i]? = some x.ts := by simp [rowsL, h]
theorem fitL {x : AV} (h : FitV td 37 x) : ∃ l : List Ln, x = listL l ∧ l.length ≤ 1000000000000000 := by
  obtain ⟨l, hf, rfl⟩ := fitV_get h (d := (td 37).get rfl) rfl
  obtain ⟨rows, rfl, h1, h2, h3⟩ := fit_slice (e := 41) (ed := (td 41).get rfl) rfl (d := (td 37).get rfl) rfl rfl hf
  obtain ⟨l, rfl, hw⟩ := rows_typed (ts := Ln.ts) (wf := fun _ => True) (fun r hr => by
    have h0 := fit_struct (d := (td 41).get rfl) rfl rfl hr
    obtain ⟨a0, b0, e0, rfl, he0, f0, h1⟩ := fitL_cons h0
    obtain ⟨a1, b1, e1, rfl, he1, f1, h2⟩ := fitL_cons h1
    obtain ⟨a2, b2, e2, rfl, he2, f2, h3⟩ := fitL_cons h2
    obtain ⟨a3, b3, e3, rfl, he3, f3, h4⟩ := fitL_cons h3
    obtain rfl := fitL_nil h4
    obtain ⟨n0, rfl, w0⟩ := fit_int he0 (by cases he0; rfl) f0
    obtain ⟨n1, rfl, w1⟩ := fit_int he1 (by cases he1; rfl) f1
    obtain ⟨n2, rfl, w2⟩ := fit_int he2 (by cases he2; rfl) f2
    obtain ⟨n3, rfl, w3⟩ := fit_int he3 (by cases he3; rfl) f3
    exact ⟨⟨n0, n1, n2, n3⟩, rfl, trivial⟩) rows h1
  refine ⟨l, rfl, ?_⟩
  simp [reachBytes, tdl, td, nth] at h2
  omega

def prods (l : List Ln) : List Int := l.map Ln.pr
def totE (l : List Ln) : Int := if l.length > 16 then 3 else if ∃ x ∈ l, x.bad then 2 else okE (prods l).sum
def totV (l : List Ln) : Int := if l.length > 16 then 0 else if ∃ x ∈ l, x.bad then 0 else okV (prods l).sum
def rowsI (l : List Int) : List (List AV) := l.map fun n => [AI .i64 (.th fun _ => n)]
theorem rowsI_pure (l : List Int) : ∀ e ∈ rowsI l, pureL e = true := by
  intro e he
  simp only [rowsI, List.mem_map] at he
  obtain ⟨n, _, rfl⟩ := he
  rfl
theorem rowsI_wide (l : List Int) : ∀ e ∈ rowsI l, e.length = 1 := by
  intro e he
  simp only [rowsI, List.mem_map] at he
  obtain ⟨n, _, rfl⟩ := he
  rfl
theorem rowsI_len (l : List Int) : (rowsI l).length = l.length := by simp [rowsI]
theorem rowsI_set (l : List Int) (i : Nat) (n : Int) : (rowsI l).set i [AI .i64 (.th fun _ => n)] = rowsI (l.set i n) := by simp [rowsI, List.map_set]
theorem rowsI_get (l : List Int) (i : Nat) (n : Int) (h : l[i]? = some n) : (rowsI l)[i]? = some [AI .i64 (.th fun _ => n)] := by simp [rowsI, h]
theorem rowsI_snoc (l : List Int) (n : Int) : rowsI (l ++ [n]) = rowsI l ++ [[AI .i64 (.th fun _ => n)]] := by simp [rowsI]
theorem rowsI_cells (l : List Int) : rowsI l = (rows64 l).map (fun e => e.map AV.c) := by simp [rowsI, rows64, List.map_map, Function.comp_def]
abbrev IArr (l : List Int) (c : Nat) : AO := .arr 1 (.th fun _ => rowsI l) (.th fun _ => c * 1)
/-- A list under way: n are laid, the others are nothing. -/
def part0 (l : List Int) (i : Nat) : List Int := l.take i ++ List.replicate (l.length - i) 0
theorem part0_zero (l : List Int) : part0 l 0 = List.replicate l.length 0 := by simp [part0]
theorem part0_all (l : List Int) : part0 l l.length = l := by simp [part0]
theorem part0_len (l : List Int) (i : Nat) (h : i ≤ l.length) : (part0 l i).length = l.length := by simp [part0]; omega
theorem part0_set (l : List Int) (i : Nat) (n : Int) (h : l[i]? = some n) : (part0 l i).set i n = part0 l (i + 1) := by
  have hi := (List.getElem?_eq_some_iff.1 h).1
  unfold part0
  rw [List.set_append_right _ _ (by rw [List.length_take]; omega), List.take_add_one, h]
  rw [List.length_take, show i - min i l.length = 0 by omega]
  obtain ⟨k, hk⟩ : ∃ k, l.length - i = k + 1 := ⟨l.length - i - 1, by omega⟩
  rw [hk, show l.length - (i + 1) = k by omega, List.replicate_succ, List.set_cons_zero]
  simp
theorem part0_get (l : List Int) (i : Nat) (h : i < l.length) : (part0 l i)[i]? = some 0 := by
  unfold part0
  rw [List.getElem?_append_right (by simp; omega)]
  rw [List.length_take, show i - min i l.length = 0 by omega, List.getElem?_replicate, if_pos (by omega)]

include hP
set_option maxHeartbeats 4000000 in
theorem total_ret (l : List Ln) : Ret P 28 [listL l] (pair64 (totV l) (totE l)) := by
  obtain ⟨R, hR, hR0⟩ : ∃ R : Int, R = (l.length : Int) ∧ 0 ≤ R := ⟨_, rfl, by omega⟩
  have hr : ((T.vslS 4 fun _ => T.vsl 4 (rowsL l)).rows.length : Int) = R := by simp [T.rows, rowsL, hR]
  have hRn : R.toNat = l.length := by omega
  refine e28 hP ?_
  cbv
  refine BrS.mk (fun h => ?_) (fun h => ?_) <;> cbv
  · have hbig : l.length > 16 := by
      have h : 16 < R := by rw [← hr]; simpa [icmp] using h
      omega
    exact .tup' (.cons (.int (by simp only [Th.den_lit, Th.den_th, totV, if_pos hbig])) (.cons (.int (by simp only [Th.den_lit, Th.den_th, totE, if_pos hbig])) .nil))
  have h16 : R ≤ 16 := by
    have h : ¬ 16 < R := by rw [← hr]; simpa [icmp] using h
    omega
  have hlen16 : ¬ l.length > 16 := by omega
  have hpl : (prods l).length = l.length := by simp [prods]
  refine MustS.mk (by simp only [hr]; simp; omega) ?_
  cbv
  let E : Int → List AV := fun i => sp 51 [(4, .sl 0 1 (.lit 0) (.th fun _ => R.toNat) (.th fun _ => R.toNat)), (13, listL l), (14, AI .i64 (.th fun _ => R)), (15, AI .i64 (.th fun _ => i))]
  let O : Int → List AO := fun i => [IArr (part0 (prods l) i.toNat) R.toNat]
  let EB : List AV := sp 51 [(2, AI .i64 (.lit 0)), (3, AI .i64 (.lit 2))]
  refine ACode.cut (fun x e o => (x = .exit 0 ∧ (∀ x ∈ l, ¬ x.bad) ∧ e = E R ∧ o = O R) ∨ (x = .ret ∧ (∃ x ∈ l, x.bad) ∧ e = EB ∧ o = [])) ?loop ?rest
  case loop =>
    refine ACode.inv (ty hP) (fun n e o => ∃ i, 0 ≤ i ∧ i ≤ R ∧ (∀ x ∈ l.take i.toNat, ¬ x.bad) ∧ n = (R - i).toNat ∧ e = E i ∧ o = O i) R.toNat (E 0) (O 0)
      (Ren.sp [0] rfl rfl rfl (.cons rfl (.sl (q := 0) rfl rfl ?_ ?_) (.cons rfl (.pure rfl) (.cons rfl (.int hr) (.cons rfl (.int rfl) .nil)))) (.cons rfl ?_ .nil))
      ⟨0, by omega, by omega, by simp, by simp, rfl, rfl⟩ ?_
    · simp only [Th.den_th]; rw [hr]
    · simp only [Th.den_th]; rw [hr]
    · simp only [Th.den_th]
      rw [hr, show R.toNat = (prods l).length by omega]
      refine .arr (by simp only [Th.den_th]; rw [List.length_replicate, rowsI_len, part0_len _ _ (by simp)]) (fun i e e' h1 h2 => ?_) rfl
      simp only [Th.den_th] at h1 h2
      rw [List.getElem?_replicate] at h1
      split at h1
      · rename_i hi
        cases h1
        rw [rowsI_get _ i 0 (by rw [show Int.toNat 0 = 0 from rfl, part0_zero, List.getElem?_replicate, if_pos hi])] at h2
        cases h2
        refine ⟨rfl, fun j x y h3 h4 => ?_⟩
        cases j with
        | zero => cases h3; cases h4; exact .int rfl
        | succ j => cases h4
      · cases h1
    rintro n e o ⟨i, i0, i1, i2, rfl, rfl, rfl⟩ J hJ
    cbv
    refine BrS.mk (fun h1 => ?_) (fun h1 => ?_) <;> cbv
    · have h1 : i < R := by simpa [icmp] using h1
      have hi : i.toNat < l.length := by omega
      obtain ⟨x, hx⟩ : ∃ x, l[i.toNat]? = some x := ⟨l[i.toNat], List.getElem?_eq_getElem hi⟩
      have hxm : x ∈ l := List.mem_of_getElem? hx
      refine NthS.mk _ i0 (rowsL_get l _ x hx) ?_
      cbv
      repeat' (refine BrS.mk (fun h => ?_) (fun h => ?_) <;> cbv)
      all_goals first
        | exact ⟨_, _, Ren.sp [] rfl rfl rfl (.cons rfl (.pure rfl) (.cons rfl (.pure rfl) .nil)) .nil, .inr ⟨rfl, ⟨x, hxm, by simp only [icmp, decide_eq_true_eq, gt_iff_lt] at *; omega⟩, rfl, rfl⟩⟩
        | skip
      rename_i c1 c2 c3
      have hok : ¬ x.bad := by simp only [icmp, decide_eq_false_iff_not, gt_iff_lt] at *; omega
      have hgp : (prods l)[i.toNat]? = some x.pr := by simp [prods, hx]
      have hw : iop .mul .i64 x.qty x.unit = x.pr := by
        have b1 : 0 ≤ x.qty * x.unit := Int.mul_nonneg (by omega) (by omega)
        have b2 : x.qty * x.unit ≤ 1048576 * 1099511627776 := Int.mul_le_mul (by omega) (by omega) (by omega) (by omega)
        simp only [iop, wrap64]
        show _ = x.qty * x.unit
        omega
      have hbnd : inRB R.toNat i = true := by unfold inRB; simp only [Bool.and_eq_true, decide_eq_true_eq]; omega
      refine MustS.mk hbnd ?_
      cbv
      refine NthS.mk [AI .i64 (.th fun _ => 0)] ?_ ?_ ?_
      · exact Int.natCast_nonneg _
      · show (rowsI (part0 (prods l) i.toNat))[((0 + i.toNat : Nat) : Int).toNat]? = _
        rw [Int.toNat_natCast, Nat.zero_add]
        exact rowsI_get _ _ _ (part0_get _ _ (by omega))
      cbv
      refine hJ (R - (i + 1)).toNat _ _ (E (i + 1)) (O (i + 1)) (by omega) (Ren.sp [0] rfl rfl rfl (.cons rfl (.sl (q := 0) rfl rfl rfl rfl) (.cons rfl (.pure rfl) (.cons rfl (.pure rfl) (.cons rfl (.int ?_) .nil)))) (.cons rfl (.arrEq ?_ ?_ rfl) .nil)) ⟨i + 1, by omega, by omega, ?_, rfl, rfl, rfl⟩
      · simp only [Th.den_th, iop, wrap64]; omega
      · have he : (rowsI (part0 (prods l) i.toNat)).set (0 + i.toNat) [AI .i64 (.th fun _ => iop .mul .i64 x.qty x.unit)] = rowsI (part0 (prods l) (i + 1).toNat) := by
          rw [rowsI_set, hw, Nat.zero_add, part0_set _ _ _ hgp, show (i + 1).toNat = i.toNat + 1 by omega]
        exact he
      · intro e he
        have he' : e ∈ (rowsI (part0 (prods l) i.toNat)).set (0 + i.toNat) [AI .i64 (.th fun _ => iop .mul .i64 x.qty x.unit)] := he
        rw [rowsI_set] at he'
        exact rowsI_pure _ e he'
      · rw [show (i + 1).toNat = i.toNat + 1 by omega, List.take_add_one, hx]
        intro y hy
        rcases List.mem_append.1 hy with hy | hy
        · exact i2 y hy
        · simp at hy; subst hy; exact hok
    · have h1 : ¬ i < R := by simpa [icmp] using h1
      obtain rfl : i = R := by omega
      have hall : ∀ x ∈ l, ¬ x.bad := by rwa [hRn, List.take_length] at i2
      exact ⟨_, _, Ren.sp [0] rfl rfl rfl (.cons rfl (.sl (q := 0) rfl rfl rfl rfl) (.cons rfl (.pure rfl) (.cons rfl (.pure rfl) (.cons rfl (.pure rfl) .nil)))) (.cons rfl (.arrEq rfl (rowsI_pure _) rfl) .nil), .inl ⟨rfl, hall, rfl, rfl⟩⟩
  case rest =>
    rintro x e o (⟨rfl, hall, rfl, rfl⟩ | ⟨rfl, hbad, rfl, rfl⟩)
    · cbv
      have h64 : All64 (prods l) := by
        intro n hn
        simp only [prods, List.mem_map] at hn
        obtain ⟨y, hy, rfl⟩ := hn
        have := hall y hy
        have b1 : 0 ≤ y.qty * y.unit := Int.mul_nonneg (by omega) (by omega)
        have b2 : y.qty * y.unit ≤ 1048576 * 1099511627776 := Int.mul_le_mul (by omega) (by omega) (by omega) (by omega)
        unfold Ln.pr
        omega
      have hs := Sum_ret hP (prods l) h64 (by omega)
      refine hs.lend (.cons (.slS (rows64 (prods l)) _ rfl ?_ ?_ ?_) .nil) rfl ?_
      · show rowsI (part0 (prods l) R.toNat) = _
        rw [show R.toNat = (prods l).length by omega, part0_all, rowsI_cells]
      · show 0 + R.toNat ≤ _
        rw [rows64_len]; omega
      · show T.vsl 1 (rows64 (prods l)) = .vsl 1 (((rows64 (prods l)).drop 0).take R.toNat)
        rw [List.drop_zero, List.take_of_length_le (by rw [rows64_len]; omega)]
      cbv
      have h1 : ¬ ∃ x ∈ l, x.bad := fun ⟨x, hx, hb⟩ => hall x hx hb
      refine .tup' (.cons (.int ?_) (.cons (.int ?_) .nil))
      · simp only [Th.den_th, totV, sumV, if_neg hlen16, if_neg h1, if_neg (show ¬ (prods l).length > 4096 by omega)]
      · simp only [Th.den_th, totE, sumE, if_neg hlen16, if_neg h1, if_neg (show ¬ (prods l).length > 4096 by omega)]
    · cbv
      refine .tup' (.cons (.int ?_) (.cons (.int ?_) .nil))
      · simp only [Th.den_lit, Th.den_th, totV, if_neg hlen16, if_pos hbad]
      · simp only [Th.den_lit, Th.den_th, totE, if_neg hlen16, if_pos hbad]

omit hP in
theorem prods_take (l : List Ln) (i : Nat) (x : Ln) (h : l[i]? = some x) : prods (l.take (i + 1)) = prods (l.take i) ++ [x.pr] := by
  rw [List.take_add_one, h]; simp [prods]

set_option maxHeartbeats 4000000 in
theorem refTotal_ret (l : List Ln) : Ret P 29 [listL l] (pair64 (totV l) (totE l)) := by
  obtain ⟨R, hR, hR0⟩ : ∃ R : Int, R = (l.length : Int) ∧ 0 ≤ R := ⟨_, rfl, by omega⟩
  have hr : ((T.vslS 4 fun _ => T.vsl 4 (rowsL l)).rows.length : Int) = R := by simp [T.rows, rowsL, hR]
  have hRn : R.toNat = l.length := by omega
  refine e29 hP ?_
  cbv
  refine BrS.mk (fun h => ?_) (fun h => ?_) <;> cbv
  · have hbig : l.length > 16 := by
      have h : 16 < R := by rw [← hr]; simpa [icmp] using h
      omega
    exact .tup' (.cons (.int (by simp only [Th.den_lit, Th.den_th, totV, if_pos hbig])) (.cons (.int (by simp only [Th.den_lit, Th.den_th, totE, if_pos hbig])) .nil))
  have h16 : R ≤ 16 := by
    have h : ¬ 16 < R := by rw [← hr]; simpa [icmp] using h
    omega
  have hlen16 : ¬ l.length > 16 := by omega
  have hpl : ∀ i, (prods (l.take i)).length = min i l.length := by simp [prods]
  let E : Int → Nat → List AV := fun i c => sp 47 [(4, .sl 0 1 (.lit 0) (.th fun _ => i.toNat) (.th fun _ => c)), (10, listL l), (11, AI .i64 (.th fun _ => R)), (12, AI .i64 (.th fun _ => i))]
  let O : Int → Nat → List AO := fun i c => [IArr (prods (l.take i.toNat)) c]
  let EB : List AV := sp 47 [(2, AI .i64 (.lit 0)), (3, AI .i64 (.lit 2))]
  refine ACode.cut (fun x e o => (∃ c, R.toNat ≤ c ∧ x = .exit 0 ∧ (∀ x ∈ l, ¬ x.bad) ∧ e = E R c ∧ o = O R c) ∨ (x = .ret ∧ (∃ x ∈ l, x.bad) ∧ e = EB ∧ o = [])) ?loop ?rest
  case loop =>
    refine ACode.inv (ty hP) (fun n e o => ∃ i c, 0 ≤ i ∧ i ≤ R ∧ i.toNat ≤ c ∧ (∀ x ∈ l.take i.toNat, ¬ x.bad) ∧ n = (R - i).toNat ∧ e = E i c ∧ o = O i c) R.toNat (E 0 0) (O 0 0)
      (Ren.sp [1000] rfl rfl rfl (.cons rfl (.nilS (q := 0) rfl rfl rfl rfl) (.cons rfl (.pure rfl) (.cons rfl (.int hr) (.cons rfl (.int rfl) .nil)))) (.kill rfl ⟨by simp [rowsI, prods], by simp⟩ .nil))
      ⟨0, 0, by omega, by omega, by omega, by simp, by simp, rfl, rfl⟩ ?_
    rintro n e o ⟨i, c, i0, i1, ic, i2, rfl, rfl, rfl⟩ J hJ
    cbv
    refine BrS.mk (fun h1 => ?_) (fun h1 => ?_) <;> cbv
    · have h1 : i < R := by simpa [icmp] using h1
      have hi : i.toNat < l.length := by omega
      obtain ⟨x, hx⟩ : ∃ x, l[i.toNat]? = some x := ⟨l[i.toNat], List.getElem?_eq_getElem hi⟩
      have hxm : x ∈ l := List.mem_of_getElem? hx
      refine NthS.mk _ i0 (rowsL_get l _ x hx) ?_
      cbv
      repeat' (refine BrS.mk (fun h => ?_) (fun h => ?_) <;> cbv)
      all_goals first
        | exact ⟨_, _, Ren.sp [] rfl rfl rfl (.cons rfl (.pure rfl) (.cons rfl (.pure rfl) .nil)) .nil, .inr ⟨rfl, ⟨x, hxm, by simp only [icmp, decide_eq_true_eq, gt_iff_lt] at *; omega⟩, rfl, rfl⟩⟩
        | skip
      rename_i c1 c2 c3
      have hok : ¬ x.bad := by simp only [icmp, decide_eq_false_iff_not, gt_iff_lt] at *; omega
      have hw : iop .mul .i64 x.qty x.unit = x.pr := by
        have b1 : 0 ≤ x.qty * x.unit := Int.mul_nonneg (by omega) (by omega)
        have b2 : x.qty * x.unit ≤ 1048576 * 1099511627776 := Int.mul_le_mul (by omega) (by omega) (by omega) (by omega)
        simp only [iop, wrap64]
        show _ = x.qty * x.unit
        omega
      refine append_own (ty hP) (e := 2) rfl rfl rfl (by simp) rfl rfl (by decide) rfl ?_ rfl ?_ (Src.sl (und_slice (ty hP) (e := 2) rfl rfl) (es := .lit [[AI .i64 (.th fun _ => iop .mul .i64 x.qty x.unit)]]) (sz := .lit 1) rfl (by simp) (by simp)) ?_ ?_ (.th fun _ => (i + 1).toNat) (.th fun _ => rowsI (prods (l.take (i + 1).toNat))) ?_ ?_ (fun c' hc => ?_)
      · show i.toNat ≤ (rowsI _).length
        rw [rowsI_len, hpl]; omega
      · exact rowsI_wide _
      · show (i.toNat + 1) * 8 ≤ _; omega
      · show i.toNat + 1 ≤ _; omega
      · show (i + 1).toNat = i.toNat + 1; omega
      · simp only [Th.den_th, Th.den_lit]
        rw [show (i + 1).toNat = i.toNat + 1 by omega, prods_take l _ x hx, rowsI_snoc, List.take_of_length_le (l := rowsI _) (by rw [rowsI_len, hpl]; omega), hw]
        rfl
      · cbv
        refine hJ (R - (i + 1)).toNat _ _ (E (i + 1) c') (O (i + 1) c') (by omega) (Ren.sp [3] rfl rfl rfl (.cons rfl (.sl (q := 0) rfl rfl rfl rfl) (.cons rfl (.pure rfl) (.cons rfl (.pure rfl) (.cons rfl (.int ?_) .nil)))) (.cons rfl (.arrEq rfl (rowsI_pure _) rfl) .nil)) ⟨i + 1, c', by omega, by omega, hc, ?_, rfl, rfl, rfl⟩
        · simp only [Th.den_th, iop, wrap64]; omega
        · rw [show (i + 1).toNat = i.toNat + 1 by omega, List.take_add_one, hx]
          intro y hy
          rcases List.mem_append.1 hy with hy | hy
          · exact i2 y hy
          · simp at hy; subst hy; exact hok
    · have h1 : ¬ i < R := by simpa [icmp] using h1
      obtain rfl : i = R := by omega
      have hall : ∀ x ∈ l, ¬ x.bad := by rwa [hRn, List.take_length] at i2
      exact ⟨_, _, Ren.sp [0] rfl rfl rfl (.cons rfl (.sl (q := 0) rfl rfl rfl rfl) (.cons rfl (.pure rfl) (.cons rfl (.pure rfl) (.cons rfl (.pure rfl) .nil)))) (.cons rfl (.arrEq rfl (rowsI_pure _) rfl) .nil), .inl ⟨c, ic, rfl, hall, rfl, rfl⟩⟩
  case rest =>
    rintro x e o (⟨c, hc, rfl, hall, rfl, rfl⟩ | ⟨rfl, hbad, rfl, rfl⟩)
    · cbv
      have h64 : All64 (prods l) := by
        intro n hn
        simp only [prods, List.mem_map] at hn
        obtain ⟨y, hy, rfl⟩ := hn
        have := hall y hy
        have b1 : 0 ≤ y.qty * y.unit := Int.mul_nonneg (by omega) (by omega)
        have b2 : y.qty * y.unit ≤ 1048576 * 1099511627776 := Int.mul_le_mul (by omega) (by omega) (by omega) (by omega)
        unfold Ln.pr
        omega
      have hl2 : (prods l).length = l.length := by simp [prods]
      have hs := refSum_ret hP (prods l) h64 (by omega)
      refine hs.lend (.cons (.slS (rows64 (prods l)) _ rfl ?_ ?_ ?_) .nil) rfl ?_
      · show rowsI (prods (l.take R.toNat)) = _
        rw [hRn, List.take_length, rowsI_cells]
      · show 0 + R.toNat ≤ _
        rw [rows64_len]; omega
      · show T.vsl 1 (rows64 (prods l)) = .vsl 1 (((rows64 (prods l)).drop 0).take R.toNat)
        rw [List.drop_zero, List.take_of_length_le (by rw [rows64_len]; omega)]
      cbv
      have h1 : ¬ ∃ x ∈ l, x.bad := fun ⟨x, hx, hb⟩ => hall x hx hb
      refine .tup' (.cons (.int ?_) (.cons (.int ?_) .nil))
      · simp only [Th.den_th, totV, sumV, if_neg hlen16, if_neg h1, if_neg (show ¬ (prods l).length > 4096 by omega)]
      · simp only [Th.den_th, totE, sumE, if_neg hlen16, if_neg h1, if_neg (show ¬ (prods l).length > 4096 by omega)]
    · cbv
      refine .tup' (.cons (.int ?_) (.cons (.int ?_) .nil))
      · simp only [Th.den_lit, Th.den_th, totV, if_neg hlen16, if_pos hbad]
      · simp only [Th.den_lit, Th.den_th, totE, if_neg hlen16, if_pos hbad]

set_option maxHeartbeats 4000000 in
theorem moneyTotals_law : Law P td 10 [37] := by
  intro xs hx
  obtain ⟨x, ys, rfl, h1, h2⟩ := fitVs_cons hx
  obtain rfl := fitVs_nil h2
  obtain ⟨l, rfl, hl⟩ := fitL h1
  clear hx h1 h2
  refine e10 hP ?_
  cbv
  refine (total_ret hP l).call (.cons (.pure rfl) .nil) rfl ?_
  cbv
  refine (refTotal_ret hP l).call (.cons (.pure rfl) .nil) rfl ?_
  cbv
  refine (lives_ret hP).call .nil rfl ?_
  cbv
  repeat (first | (refine BrS.t (by simp [icmp]) ?_) | (refine BrS.f (by simp [icmp]) ?_)
          cbv)
  exact ⟨_, rfl, by simp [icmp]⟩
end Go.Proofs.YtchbobndobpocaaDoor
