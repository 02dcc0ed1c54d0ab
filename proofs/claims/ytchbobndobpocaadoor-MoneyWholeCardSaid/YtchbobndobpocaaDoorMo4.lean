/- The sum of many. -/
import Derived.Test.YtchbobndobpocaaDoorMo2
import Derived.Test.YtchbobndobpocaaDoorMp1
namespace Go.Proofs.YtchbobndobpocaaDoor
open Go.Abs Go.IntWalk Go.Money
variable {P : Program} (hP : P = Tryd.prog)

def rows64 (l : List Int) : List (List T) := l.map fun n => [T.int .i64 (.th fun _ => n)]
theorem rows64_len (l : List Int) : (rows64 l).length = l.length := by simp [rows64]
theorem rows64_get (l : List Int) (i : Nat) (n : Int) (h : l[i]? = some n) : (rows64 l)[i]? = some [T.int .i64 (.th fun _ => n)] := by simp [rows64, h]
abbrev list64 (l : List Int) : AV := .c (.vslS 1 fun _ => .vsl 1 (rows64 l))
abbrev All64 (l : List Int) : Prop := ∀ n ∈ l, -9223372036854775808 ≤ n ∧ n ≤ 9223372036854775807

theorem get64 {l : List Int} (hl : All64 l) {i R : Int} (hR : R = (l.length : Int)) (i0 : 0 ≤ i) (i1 : i < R) : ∃ n, l[i.toNat]? = some n ∧ I64 n := by
  have h : i.toNat < l.length := by omega
  exact ⟨l[i.toNat], List.getElem?_eq_getElem h, hl _ (List.getElem_mem h)⟩
theorem take_next {l : List Int} {i n : Int} (i0 : 0 ≤ i) (h : l[i.toNat]? = some n) : (l.take (i + 1).toNat).sum = (l.take i.toNat).sum + n := by
  rw [show (i + 1).toNat = i.toNat + 1 by omega]; exact take_succ_sum l _ n h

theorem shr63 (n : Int) : n.fdiv (2 ^ min (Int.toNat 63) IntKind.i64.bits) = n / 9223372036854775808 := Int.fdiv_eq_ediv_of_nonneg n (by decide)
include hP
set_option maxHeartbeats 4000000 in
theorem sum_ret (l : List Int) (hl : All64 l) (hlen : l.length ≤ 9223372036854775806) :
    Ret P 30 [list64 l] (.tup [AI .i64 (.th fun _ => (l.sum + 9223372036854775808) % 18446744073709551616 - 9223372036854775808), AB (.th fun _ => decide (I64 l.sum))]) := by
  obtain ⟨R, hR, hR0, hR1⟩ : ∃ R : Int, R = (l.length : Int) ∧ 0 ≤ R ∧ R ≤ 9223372036854775806 := ⟨_, rfl, by omega, by omega⟩
  have hr : ((T.vslS 1 fun _ => T.vsl 1 (rows64 l)).rows.length : Int) = R := by simp [T.rows, rows64, hR]
  have ht : l.take R.toNat = l := List.take_of_length_le (by omega)
  refine e30 hP ?_
  cbv
  let E : Int → List AV := fun i => sp 27 [(4, .ref 0 0), (7, list64 l), (8, AI .i64 (.th fun _ => R)), (9, AI .i64 (.th fun _ => i))]
  let O : Int → List AO := fun i => [.box [AI .u64 (.th fun _ => (l.take i.toNat).sum / 18446744073709551616 % 18446744073709551616), AI .u64 (.th fun _ => (l.take i.toNat).sum % 18446744073709551616)]]
  refine ACode.cut (fun x e o => x = .exit 0 ∧ e = E R ∧ o = O R) ?loop ?rest
  case loop =>
    refine ACode.inv (ty hP) (fun n e o => ∃ i, 0 ≤ i ∧ i ≤ R ∧ n = (R - i).toNat ∧ e = E i ∧ o = O i) R.toNat (E 0) (O 0)
      (Ren.sp [0] rfl rfl rfl (.cons rfl (.ref (q := 0) rfl) (.cons rfl (.pure rfl) (.cons rfl (.int hr) (.cons rfl (.int rfl) .nil)))) (.cons rfl (.box' (.cons (.int rfl) (.cons (.int rfl) .nil))) .nil))
      ⟨0, by omega, by omega, by simp, rfl, rfl⟩ ?_
    rintro n e o ⟨i, i0, i1, rfl, rfl, rfl⟩ J hJ
    cbv
    refine BrS.mk (fun h1 => ?_) (fun h1 => ?_) <;> cbv
    · have h1 : i < R := by simpa [icmp] using h1
      obtain ⟨n, hn, hnw⟩ := get64 hl hR i0 h1
      have hst := wide_step (l.take i.toNat).sum n hnw
      rw [← take_next i0 hn] at hst
      refine NthS.mk _ i0 (rows64_get l _ n hn) ?_
      cbv
      refine e41 hP ?_
      cbv
      have hm : 0 ≤ (l.take i.toNat).sum % 18446744073709551616 ∧ (l.take i.toNat).sum % 18446744073709551616 < 18446744073709551616 := by omega
      have hm2 : 0 ≤ (l.take i.toNat).sum / 18446744073709551616 % 18446744073709551616 ∧ (l.take i.toNat).sum / 18446744073709551616 % 18446744073709551616 < 18446744073709551616 := by omega
      refine add64_call hP (by exact hm.1) (by simp only [Th.den_th, wrapU]; omega) (by decide) (by decide) ?_
      cbv
      refine add64_call hP (by exact hm2.1) (by simp only [Th.den_th, wrapU]; omega) (by simp only [Th.den_th, Th.den_lit, wrapU]; omega) (by simp only [Th.den_th, Th.den_lit, wrapU]; omega) ?_
      cbv
      refine hJ (R - (i + 1)).toNat _ _ (E (i + 1)) (O (i + 1)) (by omega) (Ren.sp [0] rfl rfl rfl (.cons rfl (.ref (q := 0) rfl) (.cons rfl (.pure rfl) (.cons rfl (.pure rfl) (.cons rfl (.int ?_) .nil)))) (.cons rfl (.box' (.cons (.int ?_) (.cons (.int ?_) .nil))) .nil)) ⟨i + 1, by omega, by omega, rfl, rfl, rfl⟩
      · simp only [Th.den_th, iop, wrap64]; omega
      · simp only [Th.den_th, Th.den_lit, wrapU, iop]
        rw [← hst.2, shr63]
      · simp only [Th.den_th, Th.den_lit, wrapU]
        rw [← hst.1]
    · have h1 : ¬ i < R := by simpa [icmp] using h1
      obtain rfl : i = R := by omega
      exact ⟨_, _, Ren.sp [0] rfl rfl rfl (.cons rfl (.ref (q := 0) rfl) (.cons rfl (.pure rfl) (.cons rfl (.pure rfl) (.cons rfl (.int rfl) .nil)))) (.cons rfl (.box' (.cons (.int rfl) (.cons (.int rfl) .nil))) .nil), rfl, rfl, rfl⟩
  case rest =>
    rintro x e o ⟨rfl, rfl, rfl⟩
    cbv
    refine ADraw.of (ty hP) (mo hP) rfl ?_ (.box .nil)
    cbv
    iterate 13 (apply DOp.is; · intro J hJ; cbv; exact hJ
                cbv)
    have hS := sum_range l hl (by omega)
    have hw := wide_end l.sum hS
    refine .tup' (.cons (.int ?_) (.cons (.bool ?_) .nil))
    · simp only [Th.den_th, wrap64, ht]
      exact hw.1
    · simp only [Th.den_th, wrap64, wrapU, icmp, iop, ht]
      rw [shr63, Bool.eq_iff_iff, beq_iff_eq, decide_eq_true_eq]
      exact hw.2
end Go.Proofs.YtchbobndobpocaaDoor
