/- The walk of the law PlanBack. -/
import Derived.Test.YtlckckkchdabnaaPl4
import Derived.Test.YtlckckkchdabnaaA22
namespace Go.Proofs.Ytlckckkchdabnaa
open Go.Abs Go.IntWalk
variable {P : Program} (hP : P = Try.prog)

theorem fit22b {x : AV} (h : FitV td 22 x) : ∃ k, x = AI .u8 (.th fun _ => k) := by
  obtain ⟨l, hf, rfl⟩ := fitV_get h (d := (td 22).get rfl) rfl
  obtain ⟨n, rfl, w⟩ := fit_int (d := (td 22).get rfl) rfl rfl hf
  exact ⟨n, rfl⟩
theorem fit3b {x : AV} (h : FitV td 3 x) : ∃ k, x = AI .i64 (.th fun _ => k) := by
  obtain ⟨l, hf, rfl⟩ := fitV_get h (d := (td 3).get rfl) rfl
  obtain ⟨n, rfl, w⟩ := fit_int (d := (td 3).get rfl) rfl rfl hf
  exact ⟨n, rfl⟩
def boolRow (b : Bool) : List T := [.bool (.th fun _ => b)]
theorem fit37 {x : AV} (h : FitV td 37 x) : ∃ l : List Bool, x = .c (.vslS 1 fun _ => .vsl 1 (l.map boolRow)) ∧ l.length ≤ 140737488351232 := by
  obtain ⟨l, hf, rfl⟩ := fitV_get h (d := (td 37).get rfl) rfl
  obtain ⟨rows, rfl, h1, h2, h3⟩ := fit_slice (e := 4) (ed := (td 4).get rfl) rfl (d := (td 37).get rfl) rfl rfl hf
  obtain ⟨l, rfl, _⟩ := rows_typed (ts := boolRow) (wf := fun _ => True) (fun r hr => by
    obtain ⟨b, rfl⟩ := fit_bool (d := (td 4).get rfl) rfl rfl hr
    exact ⟨b, rfl, trivial⟩) rows h1
  exact ⟨l, rfl, by simpa [reachBytes, tdl, td, nth] using h2⟩

theorem fwd {k i : Int} (hk : k = 1 ∨ k = 3) (h0 : 0 ≤ i) (h1 : i ≤ nS k) : checkS k i false = 0 ∧ (i < nS k → nextB k i false = true ∧ nextK k i false = (lk k).getD i.toNat 0 ∧ advE k i false = 0) ∧ (i = nS k → nextB k i false = false) ∧ nS k ≤ 5 := by
  have hn := nS_cases k
  have : i = 0 ∨ i = 1 ∨ i = 2 ∨ i = 3 ∨ i = 4 ∨ i = 5 := by omega
  rcases hk with rfl | rfl <;> rcases this with rfl | rfl | rfl | rfl | rfl | rfl <;> revert h1 <;> decide
theorem turn {k i : Int} (hk : k = 1 ∨ k = 3) (h0 : 0 ≤ i) (h1 : i < nS k) (ht : turnsS (nextK k i false) = true) : advU k i false false = true ∧ advA k i false false = i ∧ (k = 1 ∨ i = 0) ∧ i ≤ 4 := by
  have hn := nS_cases k
  have : i = 0 ∨ i = 1 ∨ i = 2 ∨ i = 3 ∨ i = 4 := by omega
  rcases hk with rfl | rfl <;> rcases this with rfl | rfl | rfl | rfl | rfl <;> revert h1 ht <;> decide
theorem bwd {k i d : Int} (hk : k = 1 ∨ k = 3) (hki : k = 1 ∨ i = 0) (hi : i ≤ 4) (h0 : 0 ≤ d) (h1 : d ≤ i) : checkS k d true = 0 ∧ (0 < d → nextB k d true = true ∧ nextK k d true = undoK ((lk k).getD (d - 1).toNat 0) ∧ undoB ((lk k).getD (d - 1).toNat 0) = true ∧ advE k d true = 0) ∧ (d = 0 → nextB k d true = false) := by
  have : d = 0 ∨ d = 1 ∨ d = 2 ∨ d = 3 ∨ d = 4 := by omega
  rcases hk with rfl | rfl
  · rcases this with rfl | rfl | rfl | rfl | rfl <;> decide
  · have : d = 0 := by omega
    subst this; decide

def rowsV (l : List Int) : List (List AV) := l.map fun n => [AI .u8 (.th fun _ => n)]
theorem rowsV_pure (l : List Int) : ∀ e ∈ rowsV l, pureL e = true := by
  intro e he
  simp only [rowsV, List.mem_map] at he
  obtain ⟨n, _, rfl⟩ := he
  rfl
theorem rowsV_wide (l : List Int) : ∀ e ∈ rowsV l, e.length = 1 := by
  intro e he
  simp only [rowsV, List.mem_map] at he
  obtain ⟨n, _, rfl⟩ := he
  rfl
theorem rowsV_snoc (l : List Int) (n : Int) : rowsV (l ++ [n]) = rowsV l ++ [[AI .u8 (.th fun _ => n)]] := by simp [rowsV]
theorem take_snoc (l : List Int) (i : Int) (h0 : 0 ≤ i) (h1 : i < l.length) : l.take (i + 1).toNat = l.take i.toNat ++ [l.getD i.toNat 0] := by
  have e : (i + 1).toNat = i.toNat + 1 := by omega
  rw [e, List.take_add_one, List.getElem?_eq_getElem (by omega)]
  simp [List.getD, List.getElem?_eq_getElem (show i.toNat < l.length by omega)]
abbrev sBox (k i : Int) (u : Bool) : AO := .box [AI .i64 (.lit 1), AI .u8 (.th fun _ => k), AI .i64 (.th fun _ => i), AB (.lit u)]
abbrev dArr (l : List Int) (c : Nat) : AO := .arr 1 (.th fun _ => rowsV l) (.th fun _ => c * 1)
abbrev sAg (k i : Int) (u : Bool) : AV := .agg [AI .i64 (.lit 1), AI .u8 (.th fun _ => k), AI .i64 (.th fun _ => i), AB (.lit u)]
theorem sAg_s (k i : Int) (u : Bool) : RV 0 [] [] (sAg k i u) (saga 1 k i u) := .agg' (.cons (.int rfl) (.cons (.pure rfl) (.cons (.pure rfl) (.cons (.bool rfl) .nil))))

include hP
set_option maxHeartbeats 4000000 in
theorem planBack_law : Law P td 5 [22, 3, 37] := by
  intro xs hx
  obtain ⟨x, ys, rfl, h1, h2⟩ := fitVs_cons hx
  obtain ⟨y, zs, rfl, h3, h4⟩ := fitVs_cons h2
  obtain ⟨z, zz, rfl, h5, h6⟩ := fitVs_cons h4
  obtain rfl := fitVs_nil h6
  obtain ⟨k, rfl⟩ := fit22b h1
  obtain ⟨at', rfl⟩ := fit3b h3
  obtain ⟨rf, rfl, hrf⟩ := fit37 h5
  clear hx h1 h2 h3 h4 h5 h6
  obtain ⟨R, hR, hR0, hR1⟩ : ∃ R : Int, R = (rf.length : Int) ∧ 0 ≤ R ∧ R ≤ 140737488351232 := ⟨_, rfl, by omega, by omega⟩
  clear hrf
  refine e5 hP ?_
  cbv
  refine (lives_ret hP).call .nil rfl ?_
  cbv
  refine BrS.mk (fun q => ?_) (fun q => ?_) <;> cbv
  refine BrS.mk (fun q2 => ?_) (fun q2 => ?_) <;> cbv
  · exact ⟨_, rfl, rfl⟩
  all_goals
    replace q : k = 1 ∨ k = 3 := by first | (simp [icmp] at q2; exact .inr q2) | (simp [icmp] at q; exact .inl q)
    let E : Int → Nat → List AV := fun i c => sp 178 [(0, AI .u8 (.th fun _ => k)), (1, AI .i64 (.th fun _ => at')), (2, .c (.vslS 1 fun _ => .vsl 1 (rf.map boolRow))), (7, .ref 0 0), (8, .sl 1 1 (.lit 0) (.th fun _ => i.toNat) (.th fun _ => c)), (9, AI .i64 (.th fun _ => i))]
    let O : Int → Nat → List AO := fun i c => [sBox k i false, dArr ((lk k).take i.toNat) c]
    refine ACode.cut (fun x e o => ∃ i c, 0 ≤ i ∧ i ≤ nS k ∧ i.toNat ≤ c ∧ x = .exit 0 ∧ e = E i c ∧ o = O i c) ?loop ?rest
    case loop =>
      refine ACode.inv (ty hP) (fun n e o => ∃ i c, 0 ≤ i ∧ i ≤ nS k ∧ i.toNat ≤ c ∧ n = (nS k - i).toNat ∧ e = E i c ∧ o = O i c) (nS k).toNat (E 0 0) (O 0 0)
        (Ren.sp [0, 1000] rfl rfl rfl (.cons rfl (.pure rfl) (.cons rfl (.pure rfl) (.cons rfl (.pure rfl) (.cons rfl (.ref (q := 0) rfl) (.cons rfl (.nilS (q := 1) rfl rfl rfl rfl) (.cons rfl (.int rfl) .nil)))))) (.cons rfl (.box' (.cons (.pure rfl) (.cons (.pure rfl) (.cons (.int rfl) (.cons (.pure rfl) .nil))))) (.kill rfl ⟨by simp [rowsV], by simp⟩ .nil)))
        ⟨0, 0, by omega, by have := nS_cases k; omega, by simp, by simp, rfl, rfl⟩ ?_
      rintro n e o ⟨i, c, i0, i1, ic, rfl, rfl, rfl⟩ J hJ
      obtain ⟨f1, f2, f3, f4⟩ := fwd q i0 i1
      have hlk : (lk k).length = (nS k).toNat := by have := lk_len k; omega
      cbv
      refine BrS.mk (fun h1 => ?_) (fun h1 => ?_) <;> cbv
      · refine BrS.mk (fun h2 => ?_) (fun h2 => ?_) <;> cbv
        · refine (next_ret hP 1 k i false).call (.cons (sAg_s k i false) .nil) rfl ?_
          cbv
          refine BrS.f (by simp [icmp, f1]) ?_
          cbv
          refine BrS.mk (fun h3 => ?_) (fun h3 => ?_) <;> cbv
          · exact ⟨_, _, Ren.sp [0, 1] rfl rfl rfl (.cons rfl (.pure rfl) (.cons rfl (.pure rfl) (.cons rfl (.pure rfl) (.cons rfl (.ref (q := 0) rfl) (.cons rfl (.sl (q := 1) rfl rfl rfl rfl) (.cons rfl (.pure rfl) .nil)))))) (.cons rfl (.box' (.cons (.pure rfl) (.cons (.pure rfl) (.cons (.pure rfl) (.cons (.pure rfl) .nil))))) (.cons rfl (.arrEq rfl (rowsV_pure _) rfl) .nil)), i, c, i0, i1, ic, rfl, rfl, rfl⟩
          · have hlt : i < nS k := by
              rcases Int.lt_or_eq_of_le i1 with h | h
              · exact h
              · rw [f3 h] at h3; cases h3
            obtain ⟨g1, g2, g3⟩ := f2 hlt
            refine (adv_ret hP 1 k i false true).call (.cons (sAg_s k i false) (.cons (.bool rfl) .nil)) rfl ?_
            cbv
            refine BrS.f (by simp [icmp, g3]) ?_
            cbv
            refine append_own (ty hP) (e := 25) rfl rfl rfl (by simp) rfl rfl (by decide) rfl ?_ rfl ?_ (Src.sl (und_slice (ty hP) (e := 25) rfl rfl) (es := .lit [[AI .u8 (.th fun _ => nextK k i false)]]) (sz := .lit 1) rfl (by simp) (by simp)) ?_ ?_ (.th fun _ => (i + 1).toNat) (.th fun _ => rowsV ((lk k).take (i + 1).toNat)) ?_ ?_ (fun c' hc => ?_)
            · show i.toNat ≤ (rowsV _).length
              simp only [rowsV, List.length_map, List.length_take]; omega
            · exact rowsV_wide _
            · show (i.toNat + 1) * 1 ≤ _; omega
            · show i.toNat + 1 ≤ _; omega
            · show (i + 1).toNat = i.toNat + 1; omega
            · have hl0 : ((lk k).take i.toNat).length = i.toNat := by simp; omega
              simp only [Th.den_th, Th.den_lit]
              rw [take_snoc _ _ i0 (by omega), rowsV_snoc, List.take_of_length_le (l := rowsV _) (by simp only [rowsV, List.length_map]; omega), g2]
              rfl
            · cbv
              refine hJ (nS k - (i + 1)).toNat _ _ (E (i + 1) c') (O (i + 1) c') (by omega) (Ren.sp [0, 4] rfl rfl rfl (.cons rfl (.pure rfl) (.cons rfl (.pure rfl) (.cons rfl (.pure rfl) (.cons rfl (.ref (q := 0) rfl) (.cons rfl (.sl (q := 1) rfl rfl rfl rfl) (.cons rfl (.int ?_) .nil)))))) (.cons rfl (.box' (.cons (.int ?_) (.cons (.int ?_) (.cons (.int ?_) (.cons (.bool ?_) .nil))))) (.cons rfl (.arrEq rfl ?_ rfl) .nil))) ⟨i + 1, c', by omega, by omega, hc, rfl, rfl, rfl⟩
              · exact i64_in _ (by omega)
              · simp [advO, g3]
              · simp [advK, g3]
              · simp [advA, g3]
              · simp [advU, g3]
              · exact rowsV_pure _
        · exact ⟨_, _, Ren.sp [0, 1] rfl rfl rfl (.cons rfl (.pure rfl) (.cons rfl (.pure rfl) (.cons rfl (.pure rfl) (.cons rfl (.ref (q := 0) rfl) (.cons rfl (.sl (q := 1) rfl rfl rfl rfl) (.cons rfl (.pure rfl) .nil)))))) (.cons rfl (.box' (.cons (.pure rfl) (.cons (.pure rfl) (.cons (.pure rfl) (.cons (.pure rfl) .nil))))) (.cons rfl (.arrEq rfl (rowsV_pure _) rfl) .nil)), i, c, i0, i1, ic, rfl, rfl, rfl⟩
      · exact ⟨_, _, Ren.sp [0, 1] rfl rfl rfl (.cons rfl (.pure rfl) (.cons rfl (.pure rfl) (.cons rfl (.pure rfl) (.cons rfl (.ref (q := 0) rfl) (.cons rfl (.sl (q := 1) rfl rfl rfl rfl) (.cons rfl (.pure rfl) .nil)))))) (.cons rfl (.box' (.cons (.pure rfl) (.cons (.pure rfl) (.cons (.pure rfl) (.cons (.pure rfl) .nil))))) (.cons rfl (.arrEq rfl (rowsV_pure _) rfl) .nil)), i, c, i0, i1, ic, rfl, rfl, rfl⟩
    case rest =>
      rintro x e o ⟨i, c, i0, i1, ic, rfl, rfl, rfl⟩
      obtain ⟨f1, f2, f3, f4⟩ := fwd q i0 i1
      have hlk : (lk k).length = (nS k).toNat := by have := lk_len k; omega
      cbv
      refine (next_ret hP 1 k i false).call (.cons (sAg_s k i false) .nil) rfl ?_
      cbv
      refine BrS.mk (fun h1 => ?_) (fun h1 => ?_) <;> cbv
      · exact ⟨_, rfl, rfl⟩
      have hlt : i < nS k := by
        rcases Int.lt_or_eq_of_le i1 with h | h
        · exact h
        · rw [f3 h] at h1; cases h1
      obtain ⟨g1, g2, g3⟩ := f2 hlt
      refine (turns_ret hP _).call (.cons (.pure rfl) .nil) rfl ?_
      cbv
      refine BrS.mk (fun h2 => ?_) (fun h2 => ?_) <;> cbv
      · exact ⟨_, rfl, rfl⟩
      obtain ⟨t1, t2, t3, t4⟩ := turn q i0 hlt (by simpa using h2)
      refine (adv_ret hP 1 k i false false).as (.tup [sAg k i true, AI .i64 (.lit 0)]) (.tup' (.cons (.agg' (.cons (.int (by simp [advO, g3])) (.cons (.int (by simp [advK, g3])) (.cons (.int (by simp [t2])) (.cons (.bool (by simp [t1])) .nil))))) (.cons (.int (by simp [g3])) .nil))) (.cons (sAg_s k i false) (.cons (.bool rfl) .nil)) rfl ?_
      cbv
      let E2 : Int → Int → Nat → List AV := fun d t c => sp 178 [(2, .c (.vslS 1 fun _ => .vsl 1 (rf.map boolRow))), (7, .ref 0 0), (8, .sl 1 1 (.lit 0) (.th fun _ => d.toNat) (.th fun _ => c)), (18, AI .i64 (.th fun _ => t))]
      let O2 : Int → Nat → List AO := fun d c => [sBox k d true, .arr 1 (.th fun _ => rowsV ((lk k).take i.toNat)) (.th fun _ => c * 1)]
      refine ACode.cut (fun x e o => ∃ t c, x = .exit 2 ∧ e = E2 0 t c ∧ o = O2 0 c) ?loop2 ?rest2
      case loop2 =>
        refine ACode.inv (ty hP) (fun n e o => ∃ d t c, 0 ≤ d ∧ d ≤ i ∧ 0 ≤ t ∧ t ≤ R + (i - d) ∧ i.toNat ≤ c ∧ n = d.toNat * (R.toNat + 10) + (R + 9 - t).toNat ∧ e = E2 d t c ∧ o = O2 d c) _ (E2 i 0 c) (O2 i c)
          (Ren.sp [0, 1] rfl rfl rfl (.cons rfl (.pure rfl) (.cons rfl (.ref (q := 0) rfl) (.cons rfl (.sl (q := 1) rfl rfl rfl rfl) (.cons rfl (.int rfl) .nil)))) (.cons rfl (.box' (.cons (.pure rfl) (.cons (.pure rfl) (.cons (.pure rfl) (.cons (.pure rfl) .nil))))) (.cons rfl (.arrEq rfl (rowsV_pure _) rfl) .nil)))
          ⟨i, 0, c, by omega, by omega, by omega, by omega, ic, rfl, rfl, rfl⟩ ?_
        rintro n e o ⟨d, t, c, d0, d1, t0, t1', ic, rfl, rfl, rfl⟩ J hJ
        obtain ⟨b1, b2, b3⟩ := bwd q t3 t4 d0 d1
        cbv
        refine BrS.mk (fun h3 => ?_) (fun h3 => ?_) <;> cbv
        · have hd : 0 < d := by simp [icmp] at h3; omega
          obtain ⟨c1, c2, c3, c4⟩ := b2 hd
          refine (next_ret hP 1 k d true).as (.tup [AI .u8 (.th fun _ => nextK k d true), AB (.lit true), AI .i64 (.lit 0)]) (.tup' (.cons (.pure rfl) (.cons (.bool c1) (.cons (.int b1) .nil)))) (.cons (sAg_s k d true) .nil) rfl ?_
          cbv
          have hw : IntKind.i64.wrap ((d.toNat : Int) - 1) = d - 1 := by rw [i64_in _ (by omega)]; omega
          refine MustS.mk (by simp only [iop, inRB, Int.ofNat_eq_natCast, hw]; simp; omega) ?_
          cbv
          have hi0 : (0 + (iop .sub .i64 (Int.ofNat d.toNat) 1).toNat : Nat) = (d - 1).toNat := by simp only [iop, Int.ofNat_eq_natCast, hw]; omega
          refine NthS.mk [AI .u8 (.th fun _ => (lk k).getD (d - 1).toNat 0)] ?_ ?_ ?_
          · exact Int.natCast_nonneg _
          · show (rowsV _)[((0 + (iop .sub .i64 (Int.ofNat d.toNat) 1).toNat : Nat) : Int).toNat]? = _
            rw [hi0]
            simp only [rowsV, List.getElem?_map, List.getElem?_take, Int.toNat_natCast]
            rw [if_pos (by omega), List.getElem?_eq_getElem (by omega)]
            rw [List.getD_eq_getElem?_getD, List.getElem?_eq_getElem (show (d - 1).toNat < (lk k).length by omega)]
            rfl
          cbv
          refine (undo_ret hP _).as (.tup [AI .u8 (.th fun _ => nextK k d true), AB (.lit true)]) (.tup' (.cons (.int c2.symm) (.cons (.bool c3) .nil))) (.cons (.pure rfl) .nil) rfl ?_
          cbv
          refine BrS.f (by simp [icmp]) ?_
          cbv
          have hrl : (T.vslS 1 fun _ => T.vsl 1 (rf.map boolRow)).rows = rf.map boolRow := rfl
          have ag : RVs 0 [] [] [sAg k d true] [saga 1 k d true] := .cons (sAg_s k d true) .nil
          have nxt : ∀ {e : List AV} {ob : List AO}, nth e 2 = some (.c (.vslS 1 fun _ => .vsl 1 (rf.map boolRow))) → True := fun _ => trivial
          have tw : t + 1 ≤ 9223372036854775807 := by omega
          refine BrS.mk (fun h4 => ?_) (fun h4 => ?_) <;> cbv
          · have h4' : t < R := by rw [hR]; simpa [icmp, hrl] using h4
            have h4n : t.toNat < rf.length := by
              replace hR : R = (rf.length : Int) := hR
              omega
            refine NthS.mk (boolRow (rf.getD t.toNat false)) t0 (by
              simp only [hrl, List.getElem?_map, Th.den_th]
              rw [List.getD_eq_getElem?_getD, List.getElem?_eq_getElem h4n]; rfl) ?_
            cbv
            refine BrS.mk (fun h5 => ?_) (fun h5 => ?_) <;> cbv
            · refine (adv_ret hP 1 k d true false).as (.tup [sAg k d true, AI .i64 (.lit 0)]) (.tup' (.cons (.agg' (.cons (.int (by simp [advO, c4])) (.cons (.int (by simp [advK, c4])) (.cons (.int (by simp [advA, c4])) (.cons (.bool (by simp [advU, c4])) .nil))))) (.cons (.int c4) .nil))) (.cons (sAg_s k d true) (.cons (.bool rfl) .nil)) rfl ?_
              cbv
              refine BrS.f (by simp) ?_
              cbv
              refine hJ (d.toNat * (R.toNat + 10) + (R + 9 - (t + 1)).toNat) _ _ (E2 d (t + 1) c) (O2 d c) (Nat.add_lt_add_left (by omega) _) (Ren.sp [0, 1] rfl rfl rfl (.cons rfl (.pure rfl) (.cons rfl (.ref (q := 0) rfl) (.cons rfl (.sl (q := 1) rfl rfl rfl rfl) (.cons rfl (.int (i64_in _ (by omega))) .nil)))) (.cons rfl (.box' (.cons (.pure rfl) (.cons (.pure rfl) (.cons (.pure rfl) (.cons (.pure rfl) .nil))))) (.cons rfl (.arrEq rfl (rowsV_pure _) rfl) .nil)))
                ⟨d, t + 1, c, d0, d1, by omega, by omega, ic, rfl, rfl, rfl⟩
            · refine (adv_ret hP 1 k d true true).as (.tup [sAg k (d - 1) true, AI .i64 (.lit 0)]) (.tup' (.cons (.agg' (.cons (.int (by simp [advO, c4])) (.cons (.int (by simp [advK, c4])) (.cons (.int (by simp [advA, c4])) (.cons (.bool (by simp [advU, c4])) .nil))))) (.cons (.int c4) .nil))) (.cons (sAg_s k d true) (.cons (.bool rfl) .nil)) rfl ?_
              cbv
              refine MustS.mk (by simp only [okB, iop, Int.ofNat_eq_natCast, hw]; simp; omega) ?_
              cbv
              refine hJ ((d - 1).toNat * (R.toNat + 10) + (R + 9 - (t + 1)).toNat) _ _ (E2 (d - 1) (t + 1) c) (O2 (d - 1) c) ?_ (Ren.sp [0, 1] rfl rfl rfl (.cons rfl (.pure rfl) (.cons rfl (.ref (q := 0) rfl) (.cons rfl (.sl (q := 1) rfl ?_ ?_ ?_) (.cons rfl (.int (i64_in _ (by omega))) .nil)))) (.cons rfl (.box' (.cons (.pure rfl) (.cons (.pure rfl) (.cons (.pure rfl) (.cons (.pure rfl) .nil))))) (.cons rfl (.arrEq rfl (rowsV_pure _) rfl) .nil)))
                ⟨d - 1, t + 1, c, by omega, by omega, by omega, by omega, ic, rfl, rfl, rfl⟩
              · have e1 : d.toNat = (d - 1).toNat + 1 := by omega
                rw [e1, Nat.add_mul]; omega
              · simp [offB]; split <;> rfl
              · show ((iop .sub .i64 (Int.ofNat d.toNat) 1) - 0).toNat = (d - 1).toNat
                simp only [iop, Int.ofNat_eq_natCast, hw]; omega
              · show (Int.ofNat c - 0).toNat = c; simp
          · refine (adv_ret hP 1 k d true true).as (.tup [sAg k (d - 1) true, AI .i64 (.lit 0)]) (.tup' (.cons (.agg' (.cons (.int (by simp [advO, c4])) (.cons (.int (by simp [advK, c4])) (.cons (.int (by simp [advA, c4])) (.cons (.bool (by simp [advU, c4])) .nil))))) (.cons (.int c4) .nil))) (.cons (sAg_s k d true) (.cons (.bool rfl) .nil)) rfl ?_
            cbv
            refine MustS.mk (by simp only [okB, iop, Int.ofNat_eq_natCast, hw]; simp; omega) ?_
            cbv
            refine hJ ((d - 1).toNat * (R.toNat + 10) + (R + 9 - (t + 1)).toNat) _ _ (E2 (d - 1) (t + 1) c) (O2 (d - 1) c) ?_ (Ren.sp [0, 1] rfl rfl rfl (.cons rfl (.pure rfl) (.cons rfl (.ref (q := 0) rfl) (.cons rfl (.sl (q := 1) rfl ?_ ?_ ?_) (.cons rfl (.int (i64_in _ (by omega))) .nil)))) (.cons rfl (.box' (.cons (.pure rfl) (.cons (.pure rfl) (.cons (.pure rfl) (.cons (.pure rfl) .nil))))) (.cons rfl (.arrEq rfl (rowsV_pure _) rfl) .nil)))
              ⟨d - 1, t + 1, c, by omega, by omega, by omega, by omega, ic, rfl, rfl, rfl⟩
            · have e1 : d.toNat = (d - 1).toNat + 1 := by omega
              rw [e1, Nat.add_mul]; omega
            · simp [offB]; split <;> rfl
            · show ((iop .sub .i64 (Int.ofNat d.toNat) 1) - 0).toNat = (d - 1).toNat
              simp only [iop, Int.ofNat_eq_natCast, hw]; omega
            · show (Int.ofNat c - 0).toNat = c; simp
        · exact ⟨_, _, Ren.sp [0, 1] rfl rfl rfl (.cons rfl (.pure rfl) (.cons rfl (.ref (q := 0) rfl) (.cons rfl (.sl (q := 1) rfl rfl (by simp [icmp] at h3; simp; omega) rfl) (.cons rfl (.pure rfl) .nil)))) (.cons rfl (.box' (.cons (.pure rfl) (.cons (.pure rfl) (.cons (.int (by simp [icmp] at h3; simp; omega)) (.cons (.pure rfl) .nil))))) (.cons rfl (.arrEq rfl (rowsV_pure _) rfl) .nil)), t, c, rfl, rfl, rfl⟩
      case rest2 =>
        rintro x e o ⟨t, c, rfl, rfl, rfl⟩
        obtain ⟨b1, b2, b3⟩ := bwd q t3 t4 (Int.le_refl 0) i0
        cbv
        refine (next_ret hP 1 k 0 true).as (.tup [AI .u8 (.th fun _ => nextK k 0 true), AB (.lit false), AI .i64 (.lit 0)]) (.tup' (.cons (.pure rfl) (.cons (.bool (b3 rfl)) (.cons (.int b1) .nil)))) (.cons (sAg_s k 0 true) .nil) rfl ?_
        cbv
        exact ⟨_, rfl, rfl⟩
end Go.Proofs.Ytlckckkchdabnaa
