/- What feature.Text writes and feature.Parse reads, in plain words. No program in sight. -/
import Derived.Test.YtjnikjnkmcbjfaaDoorGCheck
namespace Go.Proofs.YtjnikjnkmcbjfaaDoor.X
open Go.RowKit Go.Proofs.YtjnikjnkmcbjfaaDoorW.PrintWords Go.Proofs.YtjnikjnkmcbjfaaDoorW.PrintLast Go.Proofs.YtjnikjnkmcbjfaaDoorW.PrintMore
/-- Is a byte one of a to z? -/
def abcB (b : UInt8) : Bool := decide (97 ≤ b.toNat ∧ b.toNat ≤ 122)
/-- The number of the first feature of a name; -1: there is none. -/
def idxS (F : List ByteArray) (s : List UInt8) : Int := match F.findIdx? (fun f => f.data.toList == s) with | some i => (i : Int) | none => -1
/-- Is a feature's bit set in a mask? -/
def bitB (p : Int) (i : Int) : Bool := Go.bits .and .u32 (shr .u32 p i) 1 == 1
/-- What is read of a text from a place on. -/
def parseL (F : List ByteArray) : Nat → List UInt8 → Int → Int → Int → Int × Int × Int × Int
  | 0, _, at_, _, _ => (0, 0, at_, 20)
  | _ + 1, [], _, p, m => (p, m, 0, 0)
  | k + 1, c :: t, at_, p, m =>
    if (c = 43 ∨ c = 45) ∧ 0 ≤ idxS F (t.takeWhile abcB) ∧ bitB (Go.bits .or .u32 p m) (idxS F (t.takeWhile abcB)) = false then
      (if c = 43 then parseL F k (t.drop (t.takeWhile abcB).length) (at_ + 1 + (t.takeWhile abcB).length) (Go.bits .or .u32 p (shl .u32 1 (idxS F (t.takeWhile abcB)))) m
       else parseL F k (t.drop (t.takeWhile abcB).length) (at_ + 1 + (t.takeWhile abcB).length) p (Go.bits .or .u32 m (shl .u32 1 (idxS F (t.takeWhile abcB)))))
    else (0, 0, at_, 20)
/-- What feature.Parse tells. -/
def parseV (F : List ByteArray) (L : List S53) (s : ByteArray) : Int × Int × Int × Int :=
  if checkB F L = true then (if 65536 < s.size then (0, 0, 0, 3) else parseL F (s.size + 1) s.data.toList 0 0 0) else (0, 0, 0, 7)
/-- What feature.Text writes of feature n. -/
def signL (F : List ByteArray) (p m : Int) (n : Nat) : List UInt8 :=
  if bitB p n = true then 43 :: (rdOf ByteArray.empty F n).data.toList else if bitB m n = true then 45 :: (rdOf ByteArray.empty F n).data.toList else []
/-- What it writes of the first n features. -/
def textL (F : List ByteArray) (p m : Int) : Nat → List UInt8
  | 0 => []
  | n + 1 => textL F p m n ++ signL F p m n
/-- What feature.Text tells. -/
def textV (F : List ByteArray) (L : List S53) (p m : Int) : ByteArray × Int :=
  if checkB F L = true then (if withinB F p m = true then (⟨(textL F p m F.length).toArray⟩, 0) else (⟨#[]⟩, 20)) else (⟨#[]⟩, 7)
theorem idxS_cases (F : List ByteArray) (s : List UInt8) : (idxS F s = -1 ∧ ∀ j, j < F.length → (rdOf ByteArray.empty F j).data.toList ≠ s) ∨ ∃ i : Nat, i < F.length ∧ idxS F s = i ∧ (rdOf ByteArray.empty F i).data.toList = s ∧ ∀ j, j < i → (rdOf ByteArray.empty F j).data.toList ≠ s := by
  rcases e : F.findIdx? (fun f => f.data.toList == s) with _ | i
  · left
    refine ⟨by simp [idxS, e], fun j hj => ?_⟩
    have := List.findIdx?_eq_none_iff.1 e F[j] (List.getElem_mem hj)
    simp only [rdOf, Int.toNat_natCast, List.getD_eq_getElem?_getD, List.getElem?_eq_getElem hj, Option.getD_some]
    simpa using this
  · right
    obtain ⟨hi, h1, h2⟩ := List.findIdx?_eq_some_iff_getElem.1 e
    refine ⟨i, hi, by simp [idxS, e], ?_, fun j hj => ?_⟩
    · simp only [rdOf, Int.toNat_natCast, List.getD_eq_getElem?_getD, List.getElem?_eq_getElem hi, Option.getD_some]
      simpa using h1
    · have := h2 j hj
      simp only [rdOf, Int.toNat_natCast, List.getD_eq_getElem?_getD, List.getElem?_eq_getElem (Nat.lt_trans hj hi), Option.getD_some]
      simpa using this
theorem signL_len (F : List ByteArray) (p m : Int) (n : Nat) (h : (rdOf ByteArray.empty F n).size ≤ 32) : (signL F p m n).length ≤ 33 := by
  have e : (rdOf ByteArray.empty F n).data.toList.length = (rdOf ByteArray.empty F n).size := rfl
  unfold signL
  split
  · rw [List.length_cons, e]; omega
  · split
    · rw [List.length_cons, e]; omega
    · simp
theorem textL_len (F : List ByteArray) (p m : Int) (n : Nat) (h : ∀ j, j < n → (rdOf ByteArray.empty F j).size ≤ 32) : (textL F p m n).length ≤ 33 * n := by
  induction n with
  | zero => simp [textL]
  | succ n ih =>
    have := ih (fun j hj => h j (by omega))
    have := signL_len F p m n (h n (by omega))
    simp only [textL, List.length_append]
    omega
theorem check_name {F : List ByteArray} {L : List S53} (h : checkB F L = true) (j : Nat) (hj : j < F.length) : nameB (rdOf ByteArray.empty F j) = true ∧ dupB F j = false := by
  simp only [checkB, Bool.and_eq_true] at h
  have h2 := h.1.2
  simp only [featsB, List.all_eq_true, List.mem_range, Bool.and_eq_true, Bool.not_eq_true'] at h2
  exact h2 j hj
theorem check_feats {F : List ByteArray} {L : List S53} (h : checkB F L = true) : F.length ≤ 24 ∧ 1 ≤ L.length ∧ L.length ≤ 128 := by
  simp only [checkB, Bool.and_eq_true, decide_eq_true_eq] at h
  exact ⟨h.1.1.1.1, h.1.1.1.2, h.1.1.2⟩
end Go.Proofs.YtjnikjnkmcbjfaaDoor.X
