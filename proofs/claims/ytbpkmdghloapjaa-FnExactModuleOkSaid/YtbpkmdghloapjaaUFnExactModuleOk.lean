/- The plain law behind the row FnExactModuleOk: what the law's function computes is true, whatever the arguments. No condition. -/
import Derived.Test.YtbpkmdghloapjaaPMox8
import Derived.Test.YtbpkmdghloapjaaFr
import Derived.Test.YtbpkmdghloapjaaTMo
namespace Go.Proofs.Ytbpkmdghloapjaa.UFnExactModuleOk
open Go.RowKit Go.Proofs.YtbpkmdghloapjaaW.PrintWords Go.Proofs.YtbpkmdghloapjaaW.PrintLast Go.Proofs.YtbpkmdghloapjaaW.PrintMore Go.Proofs.YtbpkmdghloapjaaFr Go.Proofs.Ytbpkmdghloapjaa.PMo
set_option linter.unusedVariables false
set_option linter.unusedSimpArgs false
def Pure : Prop := ∀ (a0_0 : Int) (a0_1 : Int) (a0_2 : Int) (a0_3 : Int) (a0_4 : Int) (a0_5 : Int) (a0_6 : Int) (a0_7 : Int) (a0_8 : Int) (a0_9 : Int) (a0_10 : Int) (a0_11 : Int) (a0_12 : Int) (a0_13 : Int) (a0_14 : Int) (a0_15 : Int) (a0_16 : Int), I64 a0_0 → I64 a0_1 → I64 a0_2 → I64 a0_3 → I64 a0_4 → I64 a0_5 → I64 a0_6 → I64 a0_7 → I64 a0_8 → I64 a0_9 → I64 a0_10 → I64 a0_11 → I64 a0_12 → I64 a0_13 → I64 a0_14 → I64 a0_15 → I64 a0_16 → ∃ k, laws_FnExactModuleOk.f k a0_0 a0_1 a0_2 a0_3 a0_4 a0_5 a0_6 a0_7 a0_8 a0_9 a0_10 a0_11 a0_12 a0_13 a0_14 a0_15 a0_16 = some true
-- IMPORT YtbpkmdghloapjaaT@K@
open Go.Proofs.Ytbpkmdghloapjaa.T
theorem pure : Pure := by
  unfold Pure
  intro k p0 p1 p2 p3 p4 p5 q0 q1 q2 q3 q4 q5 r lo hi n
  intros
  refine ⟨2000, ?_⟩
  simp only [laws_FnExactModuleOk.f, laws_toModule.f, laws_toPrefix.f, laws_toAddr.f, Option.bind_some, specMod _ _ _ _ _ _ _ _ _ _ _ _ _ _ _ _ _ (show 1500 < 2000 by omega), implMod _ _ _ _ _ _ _ _ _ _ _ _ _ _ _ _ _ (show 100 < 2000 by omega)]
  simp
end Go.Proofs.Ytbpkmdghloapjaa.UFnExactModuleOk
