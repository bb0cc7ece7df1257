/- utf8.DecodeRuneInString, by the library's contract. -/
import Derived.Test.YtjnikjnkmcbjfabDoorX0
import Derived.Test.YtjnikjnkmcbjfabDoorShelf
namespace Go.Proofs.YtjnikjnkmcbjfabDoor.X
open Go.RowKit Go.Proofs.YtjnikjnkmcbjfabDoorW.PrintWords Go.Proofs.YtjnikjnkmcbjfabDoorW.PrintLast Go.Proofs.YtjnikjnkmcbjfabDoorW.PrintMore
def utf8_DecodeRuneInString.f (a0 : ByteArray) : Option (Int × Int) := some (((Lib.decodeGo a0).1 : Int), ((Lib.decodeGo a0).2 : Int))
theorem utf8_DecodeRuneInString.calls (a0 : ByteArray) (r1 : Int) (r2 : Int) (w : World) (hT0 : Tabs w) (h : utf8_DecodeRuneInString.f a0 = some (r1, r2)) :
    Calls Tryd.prog 120 #[.string a0] w fun e w' => e = .returned (.tuple #[.int .i32 r1, .int .i64 r2]) ∧ Below w.heap.size w w' := by
  simp only [utf8_DecodeRuneInString.f, Option.some.injEq, Prod.mk.injEq] at h
  obtain ⟨rfl, rfl⟩ := h
  exact Tryd.utf8_DecodeRuneInString a0 w hT0
end Go.Proofs.YtjnikjnkmcbjfabDoor.X
