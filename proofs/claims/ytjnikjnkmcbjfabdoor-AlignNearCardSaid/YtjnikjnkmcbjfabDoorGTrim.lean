/- strings.Trim at an ASCII cutset, by the library's contract. -/
import Derived.Test.YtjnikjnkmcbjfabDoorX0
import Derived.Test.YtjnikjnkmcbjfabDoorShelf0
namespace Go.Proofs.YtjnikjnkmcbjfabDoor.X
open Go.RowKit Go.Proofs.YtjnikjnkmcbjfabDoorW.PrintWords Go.Proofs.YtjnikjnkmcbjfabDoorW.PrintLast Go.Proofs.YtjnikjnkmcbjfabDoorW.PrintMore
/-- A cutset that the contract takes: ASCII, and not too long. -/
def asciiSet (c : ByteArray) : Bool := decide (c.size < 4294967281) && c.data.toList.all (fun b : UInt8 => decide (b.toNat < 128))
theorem asciiSet_size {c : ByteArray} (h : asciiSet c = true) : c.size < 4294967281 := by
  simp only [asciiSet, Bool.and_eq_true, decide_eq_true_eq] at h
  exact h.1
theorem asciiSet_ascii {c : ByteArray} (h : asciiSet c = true) : ∀ (j : Nat) (b : UInt8), c.data.toList[j]? = some b → b.toNat < 128 := by
  simp only [asciiSet, Bool.and_eq_true, List.all_eq_true, decide_eq_true_eq] at h
  exact fun j b hb => h.2 b (List.mem_of_getElem? hb)
def strings_Trim.f (a0 : ByteArray) (a1 : ByteArray) : Option (ByteArray) :=
  if a0.size ≤ 9223372036854775807 ∧ asciiSet a1 = true then some ⟨(Lib.trimS a0.data.toList a1.data.toList).toArray⟩ else none
theorem strings_Trim.calls (a0 : ByteArray) (a1 : ByteArray) (r : ByteArray) (w : World) (h : strings_Trim.f a0 a1 = some r) :
    Calls Tryd.prog 104 #[.string a0, .string a1] w fun e w' => e = .returned (.string r) ∧ Below w.heap.size w w' := by
  unfold strings_Trim.f at h
  split at h
  · rename_i hc
    obtain rfl := Option.some.inj h
    exact Any.strings_Trim_laid Tryd.lays160 (by kernel_rfl) a0 a1 w hc.1 (asciiSet_size hc.2) (asciiSet_ascii hc.2)
  · cases h
end Go.Proofs.YtjnikjnkmcbjfabDoor.X
