/- The plain law: a word's letters. No program in sight. -/
import Derived.Test.YtjnikjnkmcbjfaaDoorGLetters
import Derived.IntWalk
namespace Go.Proofs.YtjnikjnkmcbjfaaDoor.X
open Go.RowKit Go.Proofs.YtjnikjnkmcbjfaaDoorW.PrintWords Go.Proofs.YtjnikjnkmcbjfaaDoorW.PrintLast Go.Proofs.YtjnikjnkmcbjfaaDoorW.PrintMore
theorem w64 {n : Int} (h : -9223372036854775808 ≤ n ∧ n ≤ 9223372036854775807) : wrap64 n = n := IntWalk.wrap64_in n h
theorem w64s {n : Nat} (h : n ≤ 1000000000000) : wrap64 ((n : Int) + 1) = ((n + 1 : Nat) : Int) := by rw [w64 (by omega)]; omega
theorem Ev.ifp {α : Type} {c : Prop} [Decidable c] {a b : Nat → Option α} {r : α} (h : c) (k : Ev a r) : Ev (fun n => if c then a n else b n) r := by simpa only [if_pos h] using k
theorem Ev.ifn {α : Type} {c : Prop} [Decidable c] {a b : Nat → Option α} {r : α} (h : ¬ c) (k : Ev b r) : Ev (fun n => if c then a n else b n) r := by simpa only [if_neg h] using k
theorem Ev.ret {α : Type} {r : α} {q : α} (h : q = r) : Ev (fun _ => some q) r := h ▸ Ev.now q
theorem Ev.someb {α β : Type} {g : Nat → Option α} {f : Nat → α → Option β} {a : α} {r : β} (h : ∀ n, g n = some a) (k : Ev (fun n => f n a) r) : Ev (fun n => (g n).bind (f n)) r := by
  refine Ev.congr (fun n => ?_) k
  rw [h n]
  rfl
theorem mem_runes (L : List S53) (r : Int) : r ∈ L.map (·.f0) ↔ ∃ j, j < L.length ∧ (rd_T53 L (j : Int)).f0 = r := by
  rw [List.mem_map]
  constructor
  · rintro ⟨x, hx, rfl⟩
    obtain ⟨j, hj, rfl⟩ := List.getElem_of_mem hx
    exact ⟨j, hj, by simp [rd_T53, hj]⟩
  · rintro ⟨j, hj, rfl⟩
    exact ⟨L[j], List.getElem_mem hj, by simp [rd_T53, hj]⟩
theorem decode_narrow (s : ByteArray) (pos : Nat) : (Utf8.decode s pos).2 ≤ 4 := by
  simp only [Utf8.decode]
  repeat' split
  all_goals simp_all
/-- A word's letters, or the error. -/
def lettersV (F : List ByteArray) (L : List S53) (s : ByteArray) : List Int × Int := if checkB F L = true then readL (L.map (·.f0)) (pieces (cutS s)) [] else ([], 7)
theorem letters_eq (F : List ByteArray) (L : List S53) (s : ByteArray) : word_Letters.f F L s = some (lettersV F L s) := rfl
theorem readL_mem (R : List Int) : ∀ (ps : List Pc) (out : List Int), (∀ x ∈ out, x ∈ R) → ∀ x ∈ (readL R ps out).1, x ∈ R
  | [], out, h => by simpa [readL] using h
  | p :: ps, out, h => by
    unfold readL
    split
    · simp
    · split
      · split
        · simp
        · rename_i hm _
          refine readL_mem R ps _ (fun x hx => ?_)
          rcases List.mem_append.1 hx with h1 | h1
          · exact h x h1
          · rw [List.mem_singleton.1 h1]
            exact hm
      · simp
theorem readL_len (R : List Int) : ∀ (ps : List Pc) (out : List Int), out.length ≤ 64 → (readL R ps out).1.length ≤ 64
  | [], out, h => by simpa [readL] using h
  | p :: ps, out, h => by
    unfold readL
    split
    · simp
    · split
      · split
        · simp
        · exact readL_len R ps _ (by rw [List.length_append]; simp only [List.length_cons, List.length_nil]; omega)
      · simp
theorem lettersV_len (F : List ByteArray) (L : List S53) (s : ByteArray) : (lettersV F L s).1.length ≤ 64 := by
  unfold lettersV
  split
  · exact readL_len _ _ _ (by simp)
  · simp
theorem check_letter {F : List ByteArray} {L : List S53} (h : checkB F L = true) (x : Int) (hx : x ∈ L.map (·.f0)) : letterB x = true := by
  obtain ⟨j, hj, rfl⟩ := (mem_runes L x).1 hx
  simp only [checkB, Bool.and_eq_true] at h
  have h2 := h.2
  simp only [lettersB, List.all_eq_true, List.mem_range] at h2
  have h3 := h2 j hj
  simp only [Bool.and_eq_true] at h3
  exact h3.1.1
theorem lettersV_letter (F : List ByteArray) (L : List S53) (s : ByteArray) : ∀ x ∈ (lettersV F L s).1, letterB x = true := by
  unfold lettersV
  split
  · rename_i h
    exact fun x hx => check_letter h x (readL_mem _ _ _ (by simp) x hx)
  · simp
end Go.Proofs.YtjnikjnkmcbjfaaDoor.X
