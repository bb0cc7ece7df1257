/- The plain law: how far two letters are, as feature.Far tells it. No program in sight. -/
import Derived.Test.YtjnikjnkmcbjfabDoorPSpec
import Derived.Test.YtjnikjnkmcbjfabDoorPEv
import Derived.Test.YtjnikjnkmcbjfabDoorX23
namespace Go.Proofs.YtjnikjnkmcbjfabDoor.X
open Go.RowKit Go.Proofs.YtjnikjnkmcbjfabDoorW.PrintWords Go.Proofs.YtjnikjnkmcbjfabDoorW.PrintLast Go.Proofs.YtjnikjnkmcbjfabDoorW.PrintMore
theorem rdL (L : List S91) (i : Nat) (h : i < L.length) : rd_T91 L (i : Int) = L[i] := by simp [rd_T91, h]
theorem far_eq (F : List ByteArray) (L : List S91) (x y : Int) : feature_Far.f F L x y = some (farV F L x y) := by
  unfold feature_Far.f farV
  rw [of_eq, Option.bind_some]
  by_cases h : (ofV F L x).2.2.2 = 0
  · rw [if_pos h, if_pos h, of_eq, Option.bind_some]
    by_cases h2 : (ofV F L y).2.2.2 = 0
    · rw [if_pos h2, if_pos h2, unl_eq, Option.bind_some]
    · rw [if_neg h2, if_neg h2]
  · rw [if_neg h, if_neg h]
end Go.Proofs.YtjnikjnkmcbjfabDoor.X
