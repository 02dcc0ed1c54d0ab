/- Proves the statement Rows.SagaReturnedSaid: for every input the law SagaReturned returns true, and each argument reads as it read before. No conditions. -/
import Derived.Test.YtnpliafeboadcaaGreatRows
import Derived.Test.YtnpliafeboadcaaGreatK44
import Derived.Test.YtnpliafeboadcaaGreatK46
namespace Go.Proofs.YtnpliafeboadcaaGreat.SagaReturned
open Go.Proofs.aaa Go.bA
theorem own:ownKnob Tryz.prog.godebug=none:=by kernel_rfl
theorem laidOut:laidOutB Tryz.prog=true:=by kernel_rfl
set_option maxRecDepth 100000 in
theorem lifted (os:Os)(started:os.Started)(H:Type)(enc:TypeId×Value->H):
    ReturnsInHanded {} Tryz.checked os 10 .any (Rows.sagaReturnedSpec.pre6 enc Tryz.prog Tryz.f10 Rows.sagaReturnedRow.domain false) (Rows.sagaReturnedSpec.post enc Tryz.prog Tryz.f10 false true false false):=
  nI (C:=Tryz.checked) (δ:=td) (ts:=[3,57,61,4,36,9,33,34,80,2,37]) sZ (by kernel_rfl) own started (by kernel_rfl) Tryz.func10 (c:=Tryz.f10.body.getD .skip) (by kernel_rfl) (by kernel_rfl)
    (ChangeSpec.witness6 (enc:=enc) (C:=Tryz.checked) false ⟨#[], #[.int .i64 0,.slice none 0 0,.int .i64 0,.slice none 0 0,.bool false],[]⟩ 8 (by kernel_rfl) (by kernel_rfl) (by kernel_rfl) (by kernel_rfl))
    rfl (tb:=4) (by kernel_rfl) (by kernel_rfl) laidOut (by kernel_rfl) (by kernel_rfl)
    (λds h=>by
      obtain⟨a0,a1,a2,a3,a4,rfl⟩:∃a0 a1 a2 a3 a4,ds=[a0,a1,a2,a3,a4]:=by
        match ds,h with
        |[a0,a1,a2,a3,a4],_=>exact⟨a0,a1,a2,a3,a4,rfl⟩
      rfl)
    (aas rfl) (λW=>⟨λb h=>absurd h (Nat.not_lt_zero b),trivial⟩)
theorem over:Rows.sagaReturnedRow.holds Tryz.pinned (OpenSpec.ofChange Rows.sagaReturnedSpec):=
  OpenClaim.holds_of_wide 10 Tryz.f10 rfl rfl rfl rfl rfl rfl rfl ⟨rfl,rfl,rfl,rfl,rfl⟩ rfl rfl rfl rfl rfl (by kernel_rfl) Tryz.func10 (by kernel_rfl)
    (of_decide_eq_true (by kernel_rfl)) (by unfold Func.isWrapper;first|(rw[if_pos (by decide+kernel)];kernel_rfl)|(rw[if_neg (by decide+kernel)];exact⟨rfl,rfl⟩))
    (λos started H enc _=>lifted os started H enc)
theorem proved:Rows.SagaReturnedSaid:=over
end Go.Proofs.YtnpliafeboadcaaGreat.SagaReturned
