/- Texts that the law leans on, part 43. No conditions. -/
import Derived.Test.YtnpliafeboadcaaGreatK34
section
namespace Go.Proofs.aaa
open Go.bA Go.IntWalk
set_option maxRecDepth 100000 in
theorem lO:EN=some true:=by decide+kernel
end Go.Proofs.aaa
end
