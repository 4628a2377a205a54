/- KernelNone: the evaluator's run at every event and every two numbers. Conditions: none. -/
import Derived.Test.YtobedemjmjfaoaaGreatDoorAwake
namespace Go.Proofs.YtobedemjmjfaoaaGreatDoor
open Go Pri
theorem run (x y z a b : Int) : retB (.bool true) (callF Tryz.prog (evO Tryz.prog orc 3000).1 (evO Tryz.prog orc 3000).2 none false 3 #[.agg #[.int .i64 x, .int .i64 y, .int .u32 z], .int .i64 a, .int .i64 b] (glI gl).hp) = true := by kernel_rfl
end Go.Proofs.YtobedemjmjfaoaaGreatDoor
