/- Proves the statement Rows.SagaHandSaid: for every input the law SagaHand returns true, and each argument reads as it read before. No conditions. -/
import Derived.Test.YtnpliafeboadcaaGreatRows
import Derived.Test.YtnpliafeboadcaaGreatK44
namespace Go.Proofs.YtnpliafeboadcaaGreat.SagaHand
open Go.Proofs.aaa Go.bA
theorem own:ownKnob Tryz.prog.godebug=none:=by kernel_rfl
theorem laidOut:laidOutB Tryz.prog=true:=by kernel_rfl
set_option maxRecDepth 100000 in
theorem lifted (os:Os)(started:os.Started)(H:Type)(enc:TypeId×Value->H):
    ReturnsInHanded {} Tryz.checked os 3 .any (Rows.sagaHandSpec.pre6 enc Tryz.prog Tryz.f3 Rows.sagaHandRow.domain false) (Rows.sagaHandSpec.post enc Tryz.prog Tryz.f3 false true false false):=
  nI (C:=Tryz.checked) (δ:=td) (ts:=[32,3,22,68,2,26,23,74,24,139,137,27,143,141,28,72,34,80,40,29,116,46,4,30,102,9,42,39,36,33,37]) sZ (by kernel_rfl) own started (by kernel_rfl) Tryz.func3 (c:=Tryz.f3.body.getD .skip) (by kernel_rfl) (by kernel_rfl)
    (ChangeSpec.witness6 (enc:=enc) (C:=Tryz.checked) false ⟨#[], #[.agg #[.int .i64 0,.slice none 0 0,.slice none 0 0,.slice none 0 0,.slice none 0 0,.slice none 0 0,.slice none 0 0,.slice none 0 0],.agg #[.string .empty,.int .u8 0,.int .i64 0,.slice none 0 0],.int .i64 0,.int .u8 0],[]⟩ 8 (by kernel_rfl) (by kernel_rfl) (by kernel_rfl) (by kernel_rfl))
    rfl (tb:=4) (by kernel_rfl) (by kernel_rfl) laidOut (by kernel_rfl) (by kernel_rfl)
    (λds h=>by
      obtain⟨a0,a1,a2,a3,rfl⟩:∃a0 a1 a2 a3,ds=[a0,a1,a2,a3]:=by
        match ds,h with
        |[a0,a1,a2,a3],_=>exact⟨a0,a1,a2,a3,rfl⟩
      rfl)
    (acW rfl) (λW=>⟨λb h=>absurd h (Nat.not_lt_zero b),trivial⟩)
theorem over:Rows.sagaHandRow.holds Tryz.pinned (OpenSpec.ofChange Rows.sagaHandSpec):=
  OpenClaim.holds_of_wide 3 Tryz.f3 rfl rfl rfl rfl rfl rfl rfl ⟨rfl,rfl,rfl,rfl,rfl⟩ rfl rfl rfl rfl rfl (by kernel_rfl) Tryz.func3 (by kernel_rfl)
    (of_decide_eq_true (by kernel_rfl)) (by unfold Func.isWrapper;first|(rw[if_pos (by decide+kernel)];kernel_rfl)|(rw[if_neg (by decide+kernel)];exact⟨rfl,rfl⟩))
    (λos started H enc _=>lifted os started H enc)
theorem proved:Rows.SagaHandSaid:=over
end Go.Proofs.YtnpliafeboadcaaGreat.SagaHand
