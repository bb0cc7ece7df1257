/- The plain law: what align's calls tell. No program in sight. -/
import Derived.Test.YtjnikjnkmcbjfabDoorGAlign
import Derived.Test.YtjnikjnkmcbjfabDoorPDist
import Derived.Test.YtjnikjnkmcbjfabDoorPCodec
import Derived.Test.YtjnikjnkmcbjfabDoorX23
namespace Go.Proofs.YtjnikjnkmcbjfabDoor.X
open Go.RowKit Go.Proofs.YtjnikjnkmcbjfabDoorW.PrintWords Go.Proofs.YtjnikjnkmcbjfabDoorW.PrintLast Go.Proofs.YtjnikjnkmcbjfabDoorW.PrintMore
theorem awake21_eq : cognatelaw21_awake.f = some true := by kernel_rfl
theorem words_eq (F : List ByteArray) (L : List S91) (s t : ByteArray) : align_Words.f F L s t = some (wordsV F L s t) := rfl
theorem words_ok {F : List ByteArray} {L : List S91} {s t : ByteArray} (h1 : (lettersV F L s).2 = 0) (h2 : (lettersV F L t).2 = 0) : wordsV F L s t = (cst (dd F L) (lettersV F L s).1 (lettersV F L t).1, prs (fstA (dd F L) (lettersV F L s).1 (lettersV F L t).1), 0) := by
  unfold wordsV
  rw [if_pos h1, if_pos h2]
theorem words_bad {F : List ByteArray} {L : List S91} {s t : ByteArray} (h : ¬ ((lettersV F L s).2 = 0 ∧ (lettersV F L t).2 = 0)) : (wordsV F L s t).1 = 0 ∧ (wordsV F L s t).2.2 ≠ 0 := by
  unfold wordsV
  by_cases h1 : (lettersV F L s).2 = 0
  · rw [if_pos h1, if_neg (fun h2 => h ⟨h1, h2⟩)]
    exact ⟨rfl, fun h2 => h ⟨h1, h2⟩⟩
  · rw [if_neg h1]
    exact ⟨rfl, h1⟩
theorem words_le (F : List ByteArray) (L : List S91) (s t : ByteArray) : cst (dd F L) (lettersV F L s).1 (lettersV F L t).1 ≤ 640 := by
  have h := cst_le (dd F L) (lettersV F L s).1 (lettersV F L t).1
  have h1 := lettersV_len F L s
  have h2 := lettersV_len F L t
  omega
theorem words_zero {F : List ByteArray} {L : List S91} {s t : ByteArray} (h1 : (lettersV F L s).2 = 0) (h2 : (lettersV F L t).2 = 0) : cst (dd F L) (lettersV F L s).1 (lettersV F L t).1 = 0 ↔ s = t := by
  obtain ⟨_, _, r1, _⟩ := letters_ok h1
  obtain ⟨_, _, r2, _⟩ := letters_ok h2
  constructor
  · intro h
    have := cst_zero (dd F L) (fun a b => (dd_in F L a b).1) (fun a b => dd_zero) _ _ h
    rw [← r1, ← r2, this]
  · rintro rfl
    exact cst_self (dd F L) (fun a b => (dd_in F L a b).1) (dd_self F L) _
end Go.Proofs.YtjnikjnkmcbjfabDoor.X
