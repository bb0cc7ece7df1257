/- The plain law: a word's letters. No program in sight. -/
import Derived.Test.YtjnikjnkmcbjfabDoorGLetters
import Derived.Test.YtjnikjnkmcbjfabDoorPEv
namespace Go.Proofs.YtjnikjnkmcbjfabDoor.X
open Go.RowKit Go.Proofs.YtjnikjnkmcbjfabDoorW.PrintWords Go.Proofs.YtjnikjnkmcbjfabDoorW.PrintLast Go.Proofs.YtjnikjnkmcbjfabDoorW.PrintMore
theorem decode_narrow (s : ByteArray) (pos : Nat) : (Utf8.decode s pos).2 ≤ 4 := by
  simp only [Utf8.decode]
  repeat' split
  all_goals simp_all
/-- A word's letters, or the error. -/
def lettersV (F : List ByteArray) (L : List S91) (s : ByteArray) : List Int × Int := if checkB F L = true then readL (L.map (·.f0)) (pieces (cutS s)) [] else ([], 7)
theorem letters_eq (F : List ByteArray) (L : List S91) (s : ByteArray) : word_Letters.f F L s = some (lettersV F L s) := rfl
theorem readL_mem (R : List Int) : ∀ (ps : List Pc) (out : List Int), (∀ x ∈ out, x ∈ R) → ∀ x ∈ (readL R ps out).1, x ∈ R
  | [], out, h => by simpa [readL] using h
  | p :: ps, out, h => by
    unfold readL
    split
    · simp
    · split
      · split
        · simp
        · rename_i hm _
          refine readL_mem R ps _ (fun x hx => ?_)
          rcases List.mem_append.1 hx with h1 | h1
          · exact h x h1
          · rw [List.mem_singleton.1 h1]
            exact hm
      · simp
theorem readL_len (R : List Int) : ∀ (ps : List Pc) (out : List Int), out.length ≤ 64 → (readL R ps out).1.length ≤ 64
  | [], out, h => by simpa [readL] using h
  | p :: ps, out, h => by
    unfold readL
    split
    · simp
    · split
      · split
        · simp
        · exact readL_len R ps _ (by rw [List.length_append]; simp only [List.length_cons, List.length_nil]; omega)
      · simp
theorem lettersV_len (F : List ByteArray) (L : List S91) (s : ByteArray) : (lettersV F L s).1.length ≤ 64 := by
  unfold lettersV
  split
  · exact readL_len _ _ _ (by simp)
  · simp
theorem check_letter {F : List ByteArray} {L : List S91} (h : checkB F L = true) (x : Int) (hx : x ∈ L.map (·.f0)) : letterB x = true := by
  obtain ⟨j, hj, rfl⟩ := (mem_runes L x).1 hx
  simp only [checkB, Bool.and_eq_true] at h
  have h2 := h.2
  simp only [lettersB, List.all_eq_true, List.mem_range] at h2
  have h3 := h2 j hj
  simp only [Bool.and_eq_true] at h3
  exact h3.1.1
theorem lettersV_letter (F : List ByteArray) (L : List S91) (s : ByteArray) : ∀ x ∈ (lettersV F L s).1, letterB x = true := by
  unfold lettersV
  split
  · rename_i h
    exact fun x hx => check_letter h x (readL_mem _ _ _ (by simp) x hx)
  · simp
end Go.Proofs.YtjnikjnkmcbjfabDoor.X
