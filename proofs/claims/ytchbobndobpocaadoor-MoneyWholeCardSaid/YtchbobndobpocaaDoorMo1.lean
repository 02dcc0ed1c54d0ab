/- The money's arithmetic: what is called of Go's library; size, Add, Sub, Mul. -/
import Derived.Test.YtchbobndobpocaaDoorEnM
import Derived.Test.YtchbobndobpocaaDoorMoF
import Derived.Laws.Externs
import Derived.IntWalk
import Derived.Lib.Index
namespace Go.Proofs.YtchbobndobpocaaDoor
open Go.Abs Go.IntWalk
variable {P : Program} (hP : P = Tryd.prog)

theorem ty (hP : P = Tryd.prog) : TyOk P td := hP ▸ td_ok
theorem mo (hP : P = Tryd.prog) : P.follows .mixedOrders = true := hP ▸ (by kernel_rfl : Tryd.prog.follows .mixedOrders = true)
theorem name31 : (Tryd.f31.name == "runtime.NumGoroutine") = false := by kernel_rfl

include hP
theorem mul64_call {a b : Th Int} (x y : Nat) (ha : a.den = x) (hb : b.den = y) (hx : x < 18446744073709551616) (hy : y < 18446744073709551616) {ob : List AO} {K : AV → List AO → Prop}
    (hk : K (.tup [AI .u64 (.th fun _ => ((x * y / 18446744073709551616 : Nat) : Int)), AI .u64 (.th fun _ => ((x * y % 18446744073709551616 : Nat) : Int))]) ob) : ACall P 31 [AI .u64 a, AI .u64 b] ob K := by
  subst hP
  refine ACall.kitV (c := Tryd.f31.body.getD .skip) (vs := [.int .u64 x, .int .u64 y]) (v := .tuple #[.int .u64 ((x * y / 18446744073709551616 : Nat) : Int), .int .u64 ((x * y % 18446744073709551616 : Nat) : Int)]) Tryd.func31 (by kernel_rfl) (by kernel_rfl) (by simp [argsL, valT, ha, hb]) (by rfl) (fun w _ => ?_) hk
  exact (Tryd.bits_Mul64 x y hx hy w).mono fun e w' ⟨h1, h2⟩ => ⟨h1, by rw [h2]; exact ⟨rfl, rfl, rfl, Nat.le_refl _, fun _ _ => rfl⟩⟩

theorem add64_call {a b c : Th Int} (ha : 0 ≤ a.den) (hb : 0 ≤ b.den) (h0 : 0 ≤ c.den) (h1 : c.den ≤ 1) {ob : List AO} {K : AV → List AO → Prop}
    (hk : K (.tup [AI .u64 (.th fun _ => (a.den + b.den + c.den) % 18446744073709551616), AI .u64 (.th fun _ => (a.den + b.den + c.den) / 18446744073709551616)]) ob) : ACall P 56 [AI .u64 a, AI .u64 b, AI .u64 c] ob K := by
  subst hP
  refine ACall.extern (vs := [.int .u64 a.den, .int .u64 b.den, .int .u64 c.den]) (v := .tuple #[.int .u64 ((a.den + b.den + c.den) % 18446744073709551616), .int .u64 ((a.den + b.den + c.den) / 18446744073709551616)]) (by rfl) (by rfl) (fun w => ?_) hk
  rw [run_callFunc_extern Tryd.func56 (by kernel_rfl) (by kernel_rfl) (by kernel_rfl) (e := add64Entry) (by kernel_rfl), run_add64 _ _ _ ha hb h0 h1]
  rfl

theorem format_call {a : Th Int} (u : Nat) (ha : a.den = u) (hu : u < 18446744073709551616) (x : Th ByteArray) (hx : x.den = ⟨(Lib.decDigits u).toArray⟩) {ob : List AO} {K : AV → List AO → Prop}
    (hk : K (AS x) ob) : ACall P 40 [AI .u64 a, AI .i64 (.lit 10)] ob K := by
  subst hP
  refine ACall.kitV (c := Tryd.f40.body.getD .skip) (vs := [.int .u64 u, .int .i64 10]) (v := .string x.den) Tryd.func40 (by kernel_rfl) (by kernel_rfl) (by simp [argsL, valT, ha]) (by rfl) (fun w hw => ?_) hk
  rw [hx]; exact Tryd.format40 u hu w hw.1

omit hP in
theorem wrap64 (n : Int) : IntKind.i64.wrap n = (n + 9223372036854775808) % 18446744073709551616 - 9223372036854775808 := IntKind.wrap_i64 n
omit hP in
theorem wrapU (n : Int) : IntKind.u64.wrap n = n % 18446744073709551616 := IntKind.wrap_u64 n

abbrev I64 (n : Int) : Prop := -9223372036854775808 ≤ n ∧ n ≤ 9223372036854775807
def absI (n : Int) : Int := if n < 0 then -n else n
theorem size_ret (n : Int) (h : I64 n) : Ret P 39 [AI .i64 (.th fun _ => n)] (AI .u64 (.th fun _ => absI n)) := by
  refine e39 hP ?_
  cbv
  refine .mk (fun h => ?_) (fun h => ?_) <;> cbv
  · refine .int ?_
    simp only [Th.den_th, Th.den_lit, icmp, iop, iun, decide_eq_true_eq, wrapU, absI] at *
    split <;> omega
  · refine .int ?_
    simp only [Th.den_th, Th.den_lit, icmp, iop, iun, decide_eq_false_iff_not, wrapU, absI] at *
    split <;> omega

def okV (n : Int) : Int := if I64 n then n else 0
def okE (n : Int) : Int := if I64 n then 0 else 5
abbrev pair64 (v e : Int) : AV := .tup [AI .i64 (.th fun _ => v), AI .i64 (.th fun _ => e)]

theorem add_ret (a b : Int) (ha : I64 a) (hb : I64 b) : Ret P 20 [AI .i64 (.th fun _ => a), AI .i64 (.th fun _ => b)] (pair64 (okV (a + b)) (okE (a + b))) := by
  refine e20 hP ?_
  cbv
  repeat' (refine BrS.mk (fun h => ?_) (fun h => ?_) <;> cbv)
  all_goals
    refine .tup' (.cons (.int ?_) (.cons (.int ?_) .nil)) <;>
    (simp only [Th.den_th, Th.den_lit, icmp, iop, iun, decide_eq_true_eq, decide_eq_false_iff_not, wrap64, okV, okE, beq_iff_eq, bne_iff_ne, I64] at *
     split <;> simp_all <;> omega)

theorem sub_ret (a b : Int) (ha : I64 a) (hb : I64 b) : Ret P 22 [AI .i64 (.th fun _ => a), AI .i64 (.th fun _ => b)] (pair64 (okV (a - b)) (okE (a - b))) := by
  refine e22 hP ?_
  cbv
  repeat' (refine BrS.mk (fun h => ?_) (fun h => ?_) <;> cbv)
  all_goals
    refine .tup' (.cons (.int ?_) (.cons (.int ?_) .nil)) <;>
    (simp only [Th.den_th, Th.den_lit, icmp, iop, iun, decide_eq_true_eq, decide_eq_false_iff_not, wrap64, okV, okE, beq_iff_eq, bne_iff_ne, I64] at *
     split <;> simp_all <;> omega)

omit hP in
theorem abs_mul (a b : Int) : ((a < 0 ↔ b < 0) ∧ a * b = absI a * absI b) ∨ (¬ (a < 0 ↔ b < 0) ∧ a * b = -(absI a * absI b)) := by
  unfold absI
  by_cases h1 : a < 0 <;> by_cases h2 : b < 0 <;> simp [h1, h2, Int.neg_mul, Int.mul_neg]
omit hP in
theorem absI_in {a : Int} (h : I64 a) : 0 ≤ absI a ∧ absI a < 18446744073709551616 := by unfold absI; split <;> omega

theorem mul64_at {a b : Th Int} (hi lo : Int) (ha : 0 ≤ a.den ∧ a.den < 18446744073709551616) (hb : 0 ≤ b.den ∧ b.den < 18446744073709551616) (h : a.den * b.den = 18446744073709551616 * hi + lo) (hl : 0 ≤ lo ∧ lo < 18446744073709551616) {ob : List AO} {K : AV → List AO → Prop}
    (hk : K (.tup [AI .u64 (.th fun _ => hi), AI .u64 (.th fun _ => lo)]) ob) : ACall P 31 [AI .u64 a, AI .u64 b] ob K := by
  obtain ⟨x, hx⟩ := Int.eq_ofNat_of_zero_le ha.1
  obtain ⟨y, hy⟩ := Int.eq_ofNat_of_zero_le hb.1
  rw [hx, hy, ← Int.natCast_mul] at h
  have h1 : ((x * y / 18446744073709551616 : Nat) : Int) = hi := by omega
  have h2 : ((x * y % 18446744073709551616 : Nat) : Int) = lo := by omega
  refine mul64_call hP x y hx hy (by omega) (by omega) ?_
  rw [h1, h2]; exact hk

set_option maxHeartbeats 4000000 in
theorem mul_ret (a b : Int) (ha : I64 a) (hb : I64 b) : Ret P 21 [AI .i64 (.th fun _ => a), AI .i64 (.th fun _ => b)] (pair64 (okV (a * b)) (okE (a * b))) := by
  have hm := abs_mul a b
  obtain ⟨hi, lo, q, hq, hrel⟩ : ∃ hi lo q : Int, absI a * absI b = q ∧ q = 18446744073709551616 * hi + lo ∧ 0 ≤ lo ∧ lo < 18446744073709551616 ∧ 0 ≤ hi := by
    have : 0 ≤ absI a * absI b := Int.mul_nonneg (absI_in ha).1 (absI_in hb).1
    exact ⟨absI a * absI b / 18446744073709551616, absI a * absI b % 18446744073709551616, _, rfl, by omega⟩
  refine e21 hP ?_
  cbv
  refine (size_ret hP a ha).call (.cons (.pure rfl) .nil) rfl ?_
  cbv
  refine (size_ret hP b hb).call (.cons (.pure rfl) .nil) rfl ?_
  cbv
  refine mul64_at hP (a := .th fun _ => absI a) (b := .th fun _ => absI b) hi lo (absI_in ha) (absI_in hb) (by rw [← hrel.1]; exact hq) ⟨hrel.2.1, hrel.2.2.1⟩ ?_
  rw [hq] at hm
  clear hq ha hb
  generalize a * b = c at hm ⊢
  cbv
  repeat' (refine BrS.mk (fun h => ?_) (fun h => ?_) <;> cbv)
  all_goals
    refine .tup' (.cons (.int ?_) (.cons (.int ?_) .nil)) <;>
    (simp only [Th.den_th, Th.den_lit, icmp, iop, iun, wrap64, wrapU, okV, okE, I64, decide_eq_true_eq, decide_eq_false_iff_not, beq_iff_eq, bne_iff_ne, beq_eq_false_iff_ne, bne_eq_false_iff_eq, Bool.not_not, Bool.not_eq_true', decide_eq_decide, Bool.not_eq_false'] at *
     first | omega | (split <;> omega))
end Go.Proofs.YtchbobndobpocaaDoor
