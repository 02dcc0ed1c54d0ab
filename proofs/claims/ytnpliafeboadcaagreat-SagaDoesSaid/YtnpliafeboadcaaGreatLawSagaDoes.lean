/- Proves the statement Rows.SagaDoesSaid: for every input the law SagaDoes returns true, and each argument reads as it read before. No conditions. -/
import Derived.Test.YtnpliafeboadcaaGreatRows
import Derived.Test.YtnpliafeboadcaaGreatK44
namespace Go.Proofs.YtnpliafeboadcaaGreat.SagaDoes
open Go.Proofs.aaa Go.bA
theorem own:ownKnob Tryz.prog.godebug=none:=by kernel_rfl
theorem laidOut:laidOutB Tryz.prog=true:=by kernel_rfl
set_option maxRecDepth 100000 in
theorem lifted (os:Os)(started:os.Started)(H:Type)(enc:TypeId×Value->H):
    ReturnsInHanded {} Tryz.checked os 4 .any (Rows.sagaDoesSpec.pre6 enc Tryz.prog Tryz.f4 Rows.sagaDoesRow.domain false) (Rows.sagaDoesSpec.post enc Tryz.prog Tryz.f4 false true false false):=
  nI (C:=Tryz.checked) (δ:=td) (ts:=[3,57,61,4,36,9,33,34,80,2,37]) sZ (by kernel_rfl) own started (by kernel_rfl) Tryz.func4 (c:=Tryz.f4.body.getD .skip) (by kernel_rfl) (by kernel_rfl)
    (ChangeSpec.witness6 (enc:=enc) (C:=Tryz.checked) false ⟨#[], #[.int .i64 0,.slice none 0 0],[]⟩ 8 (by kernel_rfl) (by kernel_rfl) (by kernel_rfl) (by kernel_rfl))
    rfl (tb:=4) (by kernel_rfl) (by kernel_rfl) laidOut (by kernel_rfl) (by kernel_rfl)
    (λds h=>by
      obtain⟨a0,a1,rfl⟩:∃a0 a1,ds=[a0,a1]:=by
        match ds,h with
        |[a0,a1],_=>exact⟨a0,a1,rfl⟩
      rfl)
    (acX rfl) (λW=>⟨λb h=>absurd h (Nat.not_lt_zero b),trivial⟩)
theorem over:Rows.sagaDoesRow.holds Tryz.pinned (OpenSpec.ofChange Rows.sagaDoesSpec):=
  OpenClaim.holds_of_wide 4 Tryz.f4 rfl rfl rfl rfl rfl rfl rfl ⟨rfl,rfl,rfl,rfl,rfl⟩ rfl rfl rfl rfl rfl (by kernel_rfl) Tryz.func4 (by kernel_rfl)
    (of_decide_eq_true (by kernel_rfl)) (by unfold Func.isWrapper;first|(rw[if_pos (by decide+kernel)];kernel_rfl)|(rw[if_neg (by decide+kernel)];exact⟨rfl,rfl⟩))
    (λos started H enc _=>lifted os started H enc)
theorem proved:Rows.SagaDoesSaid:=over
end Go.Proofs.YtnpliafeboadcaaGreat.SagaDoes
