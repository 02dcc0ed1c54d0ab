/- math/bits.Div64, walked. -/
import Derived.Test.YtchbobndobpocaaDoorMo7
import Derived.Test.YtchbobndobpocaaDoorMp9
namespace Go.Proofs
open Go.Shelf
theorem Tryd.lays129 : Go.Proofs.Lays.n129 Tryd.prog Tryd.laysM284_ren where
  mixed := by kernel_rfl
  f129 := Tryd.func57.trans (congrArg some (by kernel_rfl))
  t53 := Tryd.underlying45
  a53 := Tryd.isAgg45
  z53 := Tryd.sizeOf45
  v53 := Tryd.zeroValue45
  t3 := Tryd.underlying3
  a3 := Tryd.isAgg3
  z3 := Tryd.sizeOf3
  v3 := Tryd.zeroValue3
  t4 := Tryd.underlying4
  a4 := Tryd.isAgg4
  z4 := Tryd.sizeOf4
  v4 := Tryd.zeroValue4
  t46 := Tryd.underlying64
  a46 := Tryd.isAgg64
  z46 := Tryd.sizeOf64
  v46 := Tryd.zeroValue64
  t5 := Tryd.underlying5
  a5 := Tryd.isAgg5
  z5 := Tryd.sizeOf5
  v5 := Tryd.zeroValue5
  t9 := Tryd.underlying9
  a9 := Tryd.isAgg9
  z9 := Tryd.sizeOf9
  v9 := Tryd.zeroValue9
end Go.Proofs
namespace Go.Proofs.YtchbobndobpocaaDoor
open Go.Abs Go.IntWalk Go.Money
variable {P : Program} (hP : P = Tryd.prog)

theorem and_mask (a : Int) (h : 0 ≤ a ∧ a < 18446744073709551616) : iop .and .u64 a 4294967295 = a % 4294967296 := by
  obtain ⟨x, rfl⟩ := Int.eq_ofNat_of_zero_le h.1
  have e : (BitVec.ofInt 64 (x : Int) &&& BitVec.ofInt 64 4294967295).toNat = x % 4294967296 := by
    rw [BitVec.toNat_and, BitVec.ofInt_natCast, BitVec.toNat_ofNat, Nat.mod_eq_of_lt (by omega)]
    have e2 : (BitVec.ofInt 64 4294967295).toNat = 2 ^ 32 - 1 := by decide
    rw [e2, Nat.and_two_pow_sub_one_eq_mod]
  show IntKind.u64.wrap (((BitVec.ofInt 64 (x : Int) &&& BitVec.ofInt 64 4294967295).toNat : Nat) : Int) = _
  rw [e, wrapU]; omega
theorem shrU32 (n : Int) : iop .shr .u64 n 32 = n / 4294967296 := by simp only [iop]; exact Int.fdiv_eq_ediv_of_nonneg n (by decide)

include hP
theorem len64_call {a : Th Int} (x : Th Int) (h0 : 0 ≤ a.den) (h1 : a.den ≤ 18446744073709551615) (hx : x.den = (Lib.bitLen a.den.toNat : Int)) {ob : List AO} {K : AV → List AO → Prop}
    (hk : K (AI .i64 x) ob) : ACall P 57 [AI .u64 a] ob K := by
  subst hP
  refine ACall.kitV (c := Tryd.f57.body.getD .skip) (vs := [.int .u64 a.den]) (v := .int .i64 x.den) Tryd.func57 (by kernel_rfl) (by kernel_rfl) (by rfl) (by rfl) (fun w _ => ?_) hk
  rw [hx]
  exact (Any.bits_Len64 Tryd.lays129 a.den w h0 h1).mono fun e w' ⟨h1, h2⟩ => ⟨h1, by rw [h2]; exact ⟨rfl, rfl, rfl, Nat.le_refl _, fun _ _ => rfl⟩⟩

set_option maxHeartbeats 8000000 in
theorem div64_ret (hi lo y : Int) (hh : 0 ≤ hi) (hl : 0 ≤ lo ∧ lo < 18446744073709551616) (hy : 0 < y ∧ y < 18446744073709551616) (hlt : hi < y) :
    Ret P 32 [AI .u64 (.th fun _ => hi), AI .u64 (.th fun _ => lo), AI .u64 (.th fun _ => y)] (.tup [AI .u64 (.th fun _ => (hi * 18446744073709551616 + lo) / y), .junk]) := by
  refine e32 hP ?_
  cbv
  refine BrS.f (by simp only [icmp, beq_eq_false_iff_ne]; omega) ?_
  cbv
  refine BrS.f (by simp only [icmp, decide_eq_false_iff_not]; omega) ?_
  cbv
  refine BrS.mk (fun h => ?_) (fun h => ?_) <;> cbv
  · have h : hi = 0 := by simpa [icmp] using h
    have hne : (y != 0) = true := by simp; omega
    refine ADraw.of (ty hP) (mo hP) rfl ?_
    cbv
    iterate 8 (apply DOp.is
               · intro J hJ
                 cbv
                 first
                 | exact hJ
                 | (refine MustS.mk hne ?_
                    exact hJ)
               cbv)
    refine .tup' (.cons (.int ?_) (.cons .junk .nil))
    simp only [den_m2, Th.den_th, iop]
    rw [Int.tdiv_eq_ediv_of_nonneg hl.1, wrapU, h]
    have h1 := Int.ediv_le_self y hl.1
    have h2 : 0 ≤ lo / y := Int.ediv_nonneg hl.1 (by omega)
    simp only [Int.zero_mul, Int.zero_add]
    omega
  · have h : hi ≠ 0 := by simpa [icmp] using h
    obtain ⟨s, p3, p2, hs, hs1, hp2, hp3, hpp, p20, p30, hn1, hn2⟩ := norm_facts y hy.1 hy.2
    obtain ⟨z, hz, hz0, hz1⟩ : ∃ z : Int, z.toNat = s ∧ 0 ≤ z ∧ z < 64 := ⟨s, by omega, by omega, by omega⟩
    have hzb : (Lib.bitLen y.toNat : Int) = 64 - z := by
      have := bitLen_range y.toNat (by omega) (by omega)
      omega
    refine e42 hP ?_
    cbv
    refine len64_call hP (.th fun _ => 64 - z) (by show 0 ≤ y; omega) (by show y ≤ _; omega) (by show 64 - z = _; exact hzb.symm) ?_
    cbv
    have hw : IntKind.u64.wrap (iop .sub .i64 64 (64 - z)) = z := by simp only [iop, wrap64, wrapU]; omega
    have hzm : min z.toNat (IntKind.bits .u64) = s := by show min z.toNat 64 = s; omega
    have hzm3 : min (64 - z).toNat (IntKind.bits .u64) = 64 - s := by show min (64 - z).toNat 64 = 64 - s; omega
    have hhp : 0 ≤ hi * p2 ∧ hi * p2 + p2 ≤ y * p2 := by
      refine ⟨Int.mul_nonneg hh (by omega), ?_⟩
      have : (hi + 1) * p2 ≤ y * p2 := Int.mul_le_mul_of_nonneg_right (by omega) (by omega)
      rwa [Int.add_mul, Int.one_mul] at this
    obtain ⟨l0, l1, hM⟩ := shift_facts hpp p20 p30 hl hh
    have hA : iop .shl .u64 y z = y * p2 := by simp only [iop, wrapU]; rw [hzm, hp2]; omega
    have hD : iop .shl .u64 hi z = hi * p2 := by simp only [iop, wrapU]; rw [hzm, hp2]; omega
    have hG : iop .shl .u64 lo z = lo * p2 % 18446744073709551616 := by simp only [iop, wrapU]; rw [hzm, hp2]
    have hS : iop .sub .u64 64 z = 64 - z := by simp only [iop, wrapU]; omega
    have hE : iop .shr .u64 lo (64 - z) = lo / p3 := by
      simp only [iop]; rw [hzm3, hp3]; exact Int.fdiv_eq_ediv_of_nonneg _ (by omega)
    have hF : iop .or .u64 (hi * p2) (lo / p3) = hi * p2 + lo / p3 := by
      show IntKind.u64.wrap (((BitVec.ofInt 64 (hi * p2) ||| BitVec.ofInt 64 (lo / p3)).toNat : Nat) : Int) = _
      rw [or_add hi (lo / p3) s p2 hs1 hp2 hh (by omega) ⟨l0, l1⟩, wrapU]; omega
    obtain ⟨Y, hY⟩ : ∃ Y, y * p2 = Y := ⟨_, rfl⟩
    obtain ⟨U, hU⟩ : ∃ U, hi * p2 + lo / p3 = U := ⟨_, rfl⟩
    obtain ⟨T, hT⟩ : ∃ T, lo * p2 % 18446744073709551616 = T := ⟨_, rfl⟩
    have hT0 : 0 ≤ T ∧ T < 18446744073709551616 := by rw [← hT]; omega
    have hU0 : 0 ≤ U ∧ U < Y := by rw [← hU, ← hY]; omega
    rw [hT, hU] at hM
    rw [hY] at hA hn1 hn2
    rw [hU] at hF
    rw [hT] at hG
    obtain ⟨y1, hy1⟩ : ∃ y1, Y / 4294967296 = y1 := ⟨_, rfl⟩
    obtain ⟨y0, hy0⟩ : ∃ y0, Y % 4294967296 = y0 := ⟨_, rfl⟩
    obtain ⟨d1, hd1⟩ : ∃ d1, T / 4294967296 = d1 := ⟨_, rfl⟩
    obtain ⟨d0, hd0⟩ : ∃ d0, T % 4294967296 = d0 := ⟨_, rfl⟩
    have hB : iop .shr .u64 Y 32 = y1 := by rw [shrU32, hy1]
    have hC : iop .and .u64 Y 4294967295 = y0 := by rw [and_mask _ (by omega), hy0]
    have hH : iop .shr .u64 T 32 = d1 := by rw [shrU32, hd1]
    have hI : iop .and .u64 T 4294967295 = d0 := by rw [and_mask _ hT0, hd0]
    have ry1 : 2147483648 ≤ y1 ∧ y1 < 4294967296 := by omega
    have ry0 : 0 ≤ y0 ∧ y0 < 4294967296 := by omega
    have rd1 : 0 ≤ d1 ∧ d1 < 4294967296 := by omega
    have rd0 : 0 ≤ d0 ∧ d0 < 4294967296 := by omega
    have hYs : Y = y1 * 4294967296 + y0 := by omega
    have hM : (hi * 18446744073709551616 + lo) * p2 = U * 18446744073709551616 + (d1 * 4294967296 + d0) := by rw [hM]; omega
    clear hzm hzm3 hs hp2 hp3 hpp hn1 hn2 l0 l1 hhp hzb hz hs1 hT hT0 hU hy1 hy0 hd1 hd0
    rw [hw]
    refine MustS.mk (decide_eq_true hz0) ?_
    cbv
    rw [hA, hB, hC]
    refine MustS.mk (decide_eq_true hz0) ?_
    cbv
    rw [hD, hS]
    refine MustS.mk (decide_eq_true (by omega)) ?_
    cbv
    rw [hE, hF]
    refine MustS.mk (decide_eq_true hz0) ?_
    cbv
    rw [hG, hH, hI]
    refine MustS.mk (by simp; omega) ?_
    cbv
    obtain ⟨Q1, R1, f1, f2, f3, f4, f5, f6, f7⟩ := kn_Q (Y := Y) (U := U) (d := d1) (by omega) hU0 rd1
    obtain ⟨b1, b2, b3, b4, b5⟩ := kn_start ry1 ry0 (by rw [← hYs]; exact hU0) rd1 (by rw [← hYs]; exact f1) f3
    let E1 : Int → Int → List AV := fun q r => sp 135 [(2, AI .u64 (.th fun _ => Y)), (8, AI .u64 (.th fun _ => z)), (9, AI .u64 (.th fun _ => y1)), (10, AI .u64 (.th fun _ => y0)), (11, AI .u64 (.th fun _ => U)), (13, AI .u64 (.th fun _ => d1)), (14, AI .u64 (.th fun _ => d0)), (15, AI .u64 (.th fun _ => q)), (16, AI .u64 (.th fun _ => r))]
    refine ACode.cut (fun x e o => x = .exit 0 ∧ ∃ r, e = E1 Q1 r ∧ o = []) ?loop1 ?rest1
    case loop1 =>
      refine ACode.inv (ty hP) (fun n e o => ∃ q r, Q1 ≤ q ∧ q ≤ 4294967297 ∧ r = U - q * y1 ∧ 0 ≤ r ∧ r < 4294967296 ∧ n = (q - Q1).toNat ∧ e = E1 q r ∧ o = []) (U / y1 - Q1).toNat (E1 (U / y1) (U % y1)) []
        (Ren.sp [] rfl rfl rfl (.cons rfl (.int rfl) (.cons rfl (.int rfl) (.cons rfl (.int rfl) (.cons rfl (.int rfl) (.cons rfl (.int rfl) (.cons rfl (.int rfl) (.cons rfl (.int rfl) (.cons rfl (.int ?_) (.cons rfl (.int ?_) .nil))))))))) .nil)
        ⟨U / y1, U % y1, b1, b2, b3.symm, b4, by omega, rfl, rfl, rfl⟩ ?_
      · simp only [Th.den_th, iop, wrapU]; rw [Int.tdiv_eq_ediv_of_nonneg hU0.1]; omega
      · have b6 : 0 ≤ U / y1 * y1 := Int.mul_nonneg (Int.ediv_nonneg hU0.1 (by omega)) (by omega)
        simp only [Th.den_th, iop, wrapU]; rw [Int.tdiv_eq_ediv_of_nonneg hU0.1, Int.emod_eq_of_lt (a := U / y1) (by omega) (by omega), Int.emod_eq_of_lt (a := U / y1 * y1) (by omega) (by omega)]; omega
      rintro n e o ⟨q, r, c1, c2, c3, c4, c5, rfl, rfl, rfl⟩ J hJ
      have ht := kn_test (y0 := y0) (d := d1) c3
      rw [← hYs, kn_iff (by omega) f1 f2] at ht
      have c6 : 0 ≤ q * y0 := Int.mul_nonneg (by omega) ry0.1
      have c7 : q ≤ 4294967295 → q * y0 ≤ 4294967295 * 4294967295 := fun h => Int.mul_le_mul h (by omega) ry0.1 (by omega)
      have c8 : q ≤ 4294967296 → q * y0 ≤ 4294967296 * 4294967295 := fun h => Int.mul_le_mul h (by omega) ry0.1 (by omega)
      have c9 : (q - 1) * y0 = q * y0 - y0 ∧ (q - 1) * y1 = q * y1 - y1 := by constructor <;> rw [Int.sub_mul, Int.one_mul]
      have hmul : q ≤ 4294967295 → iop .mul .u64 q y0 = q * y0 := fun h => by have := c7 h; simp only [iop, wrapU]; omega
      have hadd : iop .add .u64 (iop .mul .u64 4294967296 r) d1 = 4294967296 * r + d1 := by simp only [iop, wrapU]; omega
      cbv
      refine BrS.mk (fun h1 => ?_) (fun h1 => ?_) <;> cbv
      case' refine_2 =>
        have h1' : ¬ 4294967296 ≤ q := by simpa [icmp] using h1
        rw [hmul (by omega), hadd]
        refine BrS.mk (fun h2 => ?_) (fun h2 => ?_) <;> cbv
      case refine_2.refine_2 =>
        have h2 : ¬ 4294967296 * r + d1 < q * y0 := by simpa [icmp] using h2
        have hq : q = Q1 := by have := ht.2 (by omega); omega
        exact ⟨_, _, Ren.sp [] rfl rfl rfl (.cons rfl (.pure rfl) (.cons rfl (.pure rfl) (.cons rfl (.pure rfl) (.cons rfl (.pure rfl) (.cons rfl (.pure rfl) (.cons rfl (.pure rfl) (.cons rfl (.pure rfl) (.cons rfl (.int (by rw [Th.den_th, Th.den_th, hq])) (.cons rfl (.pure rfl) .nil))))))))) .nil, rfl, r, rfl, rfl⟩
      all_goals
        have hgt : Q1 < q := by
          rcases Int.lt_or_le Q1 q with h | h
          · exact h
          · have h3 := ht.1 h
            simp only [icmp, decide_eq_true_eq, decide_eq_false_iff_not, ge_iff_le, gt_iff_lt] at *
            omega
        refine BrS.mk (fun h3 => ?_) (fun h3 => ?_) <;> cbv
      case' refine_1.refine_1 => skip
      all_goals
        have hr : iop .add .u64 r y1 = r + y1 := by simp only [iop, wrapU]; omega
        have hd : iop .sub .u64 q 1 = q - 1 := by simp only [iop, wrapU]; omega
        first
        | (have h3 : 4294967296 ≤ r + y1 := by rw [hr] at h3; simpa [icmp] using h3
           have hq : q - 1 = Q1 := by
             have ht' := kn_test (y0 := y0) (d := d1) (U := U) (q := q - 1) (r := r + y1) (y1 := y1) (by rw [c9.2]; omega)
             rw [← hYs, kn_iff (by omega) f1 f2] at ht'
             have c10 : (q - 1) * y0 ≤ 4294967296 * 4294967295 := Int.mul_le_mul (by omega) (by omega) ry0.1 (by omega)
             have := ht'.2 (by omega)
             omega
           exact ⟨_, _, Ren.sp [] rfl rfl rfl (.cons rfl (.pure rfl) (.cons rfl (.pure rfl) (.cons rfl (.pure rfl) (.cons rfl (.pure rfl) (.cons rfl (.pure rfl) (.cons rfl (.pure rfl) (.cons rfl (.pure rfl) (.cons rfl (.int (by rw [Th.den_th, Th.den_th, hd, hq])) (.cons rfl (.pure rfl) .nil))))))))) .nil, rfl, _, rfl, rfl⟩)
        | (have h3 : ¬ 4294967296 ≤ r + y1 := by rw [hr] at h3; simpa [icmp] using h3
           exact hJ (q - 1 - Q1).toNat _ _ (E1 (q - 1) (r + y1)) [] (by omega) (Ren.sp [] rfl rfl rfl (.cons rfl (.pure rfl) (.cons rfl (.pure rfl) (.cons rfl (.pure rfl) (.cons rfl (.pure rfl) (.cons rfl (.pure rfl) (.cons rfl (.pure rfl) (.cons rfl (.pure rfl) (.cons rfl (.int (by rw [Th.den_th, Th.den_th, hd])) (.cons rfl (.int (by rw [Th.den_th, Th.den_th, hr])) .nil))))))))) .nil) ⟨q - 1, r + y1, by omega, by omega, by rw [c9.2]; omega, by omega, by omega, rfl, rfl, rfl⟩)
    case rest1 =>
    rintro x e o ⟨rfl, r1, rfl, rfl⟩
    clear b1 b2 b3 b4 b5
    have hR0 : 0 ≤ R1 ∧ R1 < Y := ⟨f6, f7⟩
    have hR : iop .sub .u64 (iop .add .u64 (iop .mul .u64 U 4294967296) d1) (iop .mul .u64 Q1 Y) = R1 := by simp only [iop, wrapU]; omega
    cbv
    rw [hR]
    refine MustS.mk (by simp; omega) ?_
    cbv
    obtain ⟨Q2, R2, g1, g2, g3, g4, g5, g6, g7⟩ := kn_Q (Y := Y) (U := R1) (d := d0) (by omega) hR0 rd0
    obtain ⟨b1, b2, b3, b4, b5⟩ := kn_start ry1 ry0 (by rw [← hYs]; exact hR0) rd0 (by rw [← hYs]; exact g1) g3
    let E2 : Int → Int → List AV := fun q r => sp 135 [(2, AI .u64 (.th fun _ => Y)), (8, AI .u64 (.th fun _ => z)), (9, AI .u64 (.th fun _ => y1)), (10, AI .u64 (.th fun _ => y0)), (14, AI .u64 (.th fun _ => d0)), (15, AI .u64 (.th fun _ => Q1)), (17, AI .u64 (.th fun _ => R1)), (18, AI .u64 (.th fun _ => q)), (16, AI .u64 (.th fun _ => r))]
    refine ACode.cut (fun x e o => x = .exit 2 ∧ ∃ r, e = E2 Q2 r ∧ o = []) ?loop2 ?rest2
    case loop2 =>
      refine ACode.inv (ty hP) (fun n e o => ∃ q r, Q2 ≤ q ∧ q ≤ 4294967297 ∧ r = R1 - q * y1 ∧ 0 ≤ r ∧ r < 4294967296 ∧ n = (q - Q2).toNat ∧ e = E2 q r ∧ o = []) (R1 / y1 - Q2).toNat (E2 (R1 / y1) (R1 % y1)) []
        (Ren.sp [] rfl rfl rfl (.cons rfl (.int rfl) (.cons rfl (.int rfl) (.cons rfl (.int rfl) (.cons rfl (.int rfl) (.cons rfl (.int rfl) (.cons rfl (.int rfl) (.cons rfl (.int rfl) (.cons rfl (.int ?_) (.cons rfl (.int ?_) .nil))))))))) .nil)
        ⟨R1 / y1, R1 % y1, b1, b2, b3.symm, b4, by omega, rfl, rfl, rfl⟩ ?_
      · simp only [Th.den_th, iop, wrapU]; rw [Int.tdiv_eq_ediv_of_nonneg hR0.1]; omega
      · have b6 : 0 ≤ R1 / y1 * y1 := Int.mul_nonneg (Int.ediv_nonneg hR0.1 (by omega)) (by omega)
        simp only [Th.den_th, iop, wrapU]; rw [Int.tdiv_eq_ediv_of_nonneg hR0.1, Int.emod_eq_of_lt (a := R1 / y1) (by omega) (by omega), Int.emod_eq_of_lt (a := R1 / y1 * y1) (by omega) (by omega)]; omega
      rintro n e o ⟨q, r, c1, c2, c3, c4, c5, rfl, rfl, rfl⟩ J hJ
      have ht := kn_test (y0 := y0) (d := d0) c3
      rw [← hYs, kn_iff (by omega) g1 g2] at ht
      have c6 : 0 ≤ q * y0 := Int.mul_nonneg (by omega) ry0.1
      have c7 : q ≤ 4294967295 → q * y0 ≤ 4294967295 * 4294967295 := fun h => Int.mul_le_mul h (by omega) ry0.1 (by omega)
      have c8 : q ≤ 4294967296 → q * y0 ≤ 4294967296 * 4294967295 := fun h => Int.mul_le_mul h (by omega) ry0.1 (by omega)
      have c9 : (q - 1) * y0 = q * y0 - y0 ∧ (q - 1) * y1 = q * y1 - y1 := by constructor <;> rw [Int.sub_mul, Int.one_mul]
      have hmul : q ≤ 4294967295 → iop .mul .u64 q y0 = q * y0 := fun h => by have := c7 h; simp only [iop, wrapU]; omega
      have hadd : iop .add .u64 (iop .mul .u64 4294967296 r) d0 = 4294967296 * r + d0 := by simp only [iop, wrapU]; omega
      cbv
      refine BrS.mk (fun h1 => ?_) (fun h1 => ?_) <;> cbv
      case' refine_2 =>
        have h1' : ¬ 4294967296 ≤ q := by simpa [icmp] using h1
        rw [hmul (by omega), hadd]
        refine BrS.mk (fun h2 => ?_) (fun h2 => ?_) <;> cbv
      case refine_2.refine_2 =>
        have h2 : ¬ 4294967296 * r + d0 < q * y0 := by simpa [icmp] using h2
        have hq : q = Q2 := by have := ht.2 (by omega); omega
        exact ⟨_, _, Ren.sp [] rfl rfl rfl (.cons rfl (.pure rfl) (.cons rfl (.pure rfl) (.cons rfl (.pure rfl) (.cons rfl (.pure rfl) (.cons rfl (.pure rfl) (.cons rfl (.pure rfl) (.cons rfl (.pure rfl) (.cons rfl (.int (by rw [Th.den_th, Th.den_th, hq])) (.cons rfl (.pure rfl) .nil))))))))) .nil, rfl, r, rfl, rfl⟩
      all_goals
        have hgt : Q2 < q := by
          rcases Int.lt_or_le Q2 q with h | h
          · exact h
          · have h3 := ht.1 h
            simp only [icmp, decide_eq_true_eq, decide_eq_false_iff_not, ge_iff_le, gt_iff_lt] at *
            omega
        refine BrS.mk (fun h3 => ?_) (fun h3 => ?_) <;> cbv
      case' refine_1.refine_1 => skip
      all_goals
        have hr : iop .add .u64 r y1 = r + y1 := by simp only [iop, wrapU]; omega
        have hd : iop .sub .u64 q 1 = q - 1 := by simp only [iop, wrapU]; omega
        first
        | (have h3 : 4294967296 ≤ r + y1 := by rw [hr] at h3; simpa [icmp] using h3
           have hq : q - 1 = Q2 := by
             have ht' := kn_test (y0 := y0) (d := d0) (U := R1) (q := q - 1) (r := r + y1) (y1 := y1) (by rw [c9.2]; omega)
             rw [← hYs, kn_iff (by omega) g1 g2] at ht'
             have c10 : (q - 1) * y0 ≤ 4294967296 * 4294967295 := Int.mul_le_mul (by omega) (by omega) ry0.1 (by omega)
             have := ht'.2 (by omega)
             omega
           exact ⟨_, _, Ren.sp [] rfl rfl rfl (.cons rfl (.pure rfl) (.cons rfl (.pure rfl) (.cons rfl (.pure rfl) (.cons rfl (.pure rfl) (.cons rfl (.pure rfl) (.cons rfl (.pure rfl) (.cons rfl (.pure rfl) (.cons rfl (.int (by rw [Th.den_th, Th.den_th, hd, hq])) (.cons rfl (.pure rfl) .nil))))))))) .nil, rfl, _, rfl, rfl⟩)
        | (have h3 : ¬ 4294967296 ≤ r + y1 := by rw [hr] at h3; simpa [icmp] using h3
           exact hJ (q - 1 - Q2).toNat _ _ (E2 (q - 1) (r + y1)) [] (by omega) (Ren.sp [] rfl rfl rfl (.cons rfl (.pure rfl) (.cons rfl (.pure rfl) (.cons rfl (.pure rfl) (.cons rfl (.pure rfl) (.cons rfl (.pure rfl) (.cons rfl (.pure rfl) (.cons rfl (.pure rfl) (.cons rfl (.int (by rw [Th.den_th, Th.den_th, hd])) (.cons rfl (.int (by rw [Th.den_th, Th.den_th, hr])) .nil))))))))) .nil) ⟨q - 1, r + y1, by omega, by omega, by rw [c9.2]; omega, by omega, by omega, rfl, rfl, rfl⟩)
    case rest2 =>
    rintro x e o ⟨rfl, r2, rfl, rfl⟩
    have hR2 : iop .sub .u64 (iop .add .u64 (iop .mul .u64 R1 4294967296) d0) (iop .mul .u64 Q2 Y) = R2 := by simp only [iop, wrapU]; omega
    have hq : iop .add .u64 (iop .mul .u64 Q1 4294967296) Q2 = Q1 * 4294967296 + Q2 := by simp only [iop, wrapU]; omega
    cbv
    refine MustS.mk (decide_eq_true hz0) ?_
    cbv
    refine .tup' (.cons (.int ?_) (.cons .junk .nil))
    rw [Th.den_th, Th.den_th, hq]
    exact kn_end hy.1 p20 hY.symm hM f5 g5 ⟨g6, g7⟩
end Go.Proofs.YtchbobndobpocaaDoor
