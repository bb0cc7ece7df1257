/- The plain law: a word doubled in front, whole, and single again. No program in sight. -/
import Derived.Test.YtjnikjnkmcbjfaaDoorPRun
import Derived.Test.YtjnikjnkmcbjfaaDoorPCodec
import Derived.Test.YtjnikjnkmcbjfaaDoorX29
namespace Go.Proofs.YtjnikjnkmcbjfaaDoor.X
open Go.RowKit Go.Proofs.YtjnikjnkmcbjfaaDoorW.PrintWords Go.Proofs.YtjnikjnkmcbjfaaDoorW.PrintLast Go.Proofs.YtjnikjnkmcbjfaaDoorW.PrintMore
theorem put_eq (l : List Int) (n : Nat) (hn : n ≤ l.length) (hl : l.length ≤ 1000) (hm : ∀ x ∈ l, letterB x = true) : double_put.f l (n : Int) = some (runesBytes (l.take n ++ l)) := by
  unfold double_put.f
  have h1 := bytesR_len l hm
  have h2 := bytesR_len (l.take n) (fun x hx => hm x (List.mem_of_mem_take hx))
  rw [List.length_take] at h2
  rw [if_pos (by omega), if_pos (by omega), Int.toNat_natCast, if_pos (by rw [runes_size, runes_size]; omega), runes_append]
def frontV (F : List ByteArray) (L : List S53) (s : ByteArray) (n : Int) : ByteArray × Int :=
  if (lettersV F L s).2 = 0 then (if n < 0 ∨ 64 < n then ((⟨#[]⟩ : ByteArray), 2) else if ((lettersV F L s).1.length : Int) < n then ((⟨#[]⟩ : ByteArray), 150) else (runesBytes ((lettersV F L s).1.take n.toNat ++ (lettersV F L s).1), 0)) else ((⟨#[]⟩ : ByteArray), (lettersV F L s).2)
theorem front_ev (F : List ByteArray) (L : List S53) (s : ByteArray) (n : Int) : Ev (fun k => double_Front.f k F L s n) (frontV F L s n) := by
  unfold frontV
  have hl := lettersV_len F L s
  refine Ev.someb (fun _ => letters_eq F L s) ?_
  by_cases h : (lettersV F L s).2 = 0
  · rw [if_pos h]
    refine Ev.ifp h ?_
    by_cases h0 : n < 0
    · rw [if_pos (Or.inl h0)]
      exact Ev.ifp h0 (Ev.step (fun k => by rw [double_Front.j0]) (Ev.ifp rfl (Ev.now _)))
    · refine Ev.ifn h0 (Ev.step (fun k => by rw [double_Front.j0]) ?_)
      by_cases h1 : 64 < n
      · rw [if_pos (Or.inr h1)]
        exact Ev.ifp (by simpa using h1) (Ev.now _)
      · rw [if_neg (show ¬ (n < 0 ∨ 64 < n) by omega)]
        refine Ev.ifn (by simpa using h1) ?_
        by_cases h2 : ((lettersV F L s).1.length : Int) < n
        · refine Ev.ifp h2 (Ev.ret ?_)
          rw [if_pos h2]
        · refine Ev.ifn h2 ?_
          rw [if_neg h2]
          obtain ⟨m, rfl⟩ := Int.eq_ofNat_of_zero_le (show 0 ≤ n by omega)
          exact Ev.someb (fun _ => put_eq _ m (by omega) (by omega) (lettersV_letter F L s)) (Ev.ret (by rw [Int.toNat_natCast]))
  · rw [if_neg h]
    exact Ev.ifn h (Ev.now _)
def wholeV (F : List ByteArray) (L : List S53) (s : ByteArray) : ByteArray × Int :=
  if (lettersV F L s).2 = 0 then (runesBytes ((lettersV F L s).1 ++ (lettersV F L s).1), 0) else ((⟨#[]⟩ : ByteArray), (lettersV F L s).2)
theorem whole_eq (F : List ByteArray) (L : List S53) (s : ByteArray) : double_Whole.f F L s = some (wholeV F L s) := by
  unfold wholeV double_Whole.f
  rw [letters_eq, Option.bind_some]
  have hl := lettersV_len F L s
  by_cases h : (lettersV F L s).2 = 0
  · rw [if_pos h, if_pos h, put_eq _ _ (Nat.le_refl _) (by omega) (lettersV_letter F L s), Option.bind_some, List.take_length]
  · rw [if_neg h, if_neg h]
/-- How many letters are cut off. -/
def cutV (l : List Int) (n : Int) : Nat := if n = 0 then l.length / 2 else n.toNat
def singleL (l : List Int) (n : Int) : ByteArray × Bool × Int :=
  if cutV l n = 0 ∨ l.length < 2 * cutV l n ∨ (n = 0 ∧ l.length % 2 ≠ 0) ∨ halfB (l.take (2 * cutV l n)) = false then ((⟨#[]⟩ : ByteArray), false, 0) else (runesBytes (l.drop (cutV l n)), true, 0)
def singleV (F : List ByteArray) (L : List S53) (s : ByteArray) (n : Int) : ByteArray × Bool × Int :=
  if (lettersV F L s).2 = 0 then (if n < 0 ∨ 64 < n then ((⟨#[]⟩ : ByteArray), false, 2) else singleL (lettersV F L s).1 n) else ((⟨#[]⟩ : ByteArray), false, (lettersV F L s).2)
theorem single_no {l : List Int} {n : Int} {c : Nat} (hc : cutV l n = c) (h : c = 0 ∨ l.length < 2 * c ∨ (n = 0 ∧ l.length % 2 ≠ 0) ∨ halfB (l.take (2 * c)) = false) : singleL l n = ((⟨#[]⟩ : ByteArray), false, 0) := by
  unfold singleL
  rw [hc, if_pos h]
theorem single_yes {l : List Int} {n : Int} {c : Nat} (hc : cutV l n = c) (h : ¬ (c = 0 ∨ l.length < 2 * c ∨ (n = 0 ∧ l.length % 2 ≠ 0) ∨ halfB (l.take (2 * c)) = false)) : singleL l n = (runesBytes (l.drop c), true, 0) := by
  unfold singleL
  rw [hc, if_neg h]
theorem single_l0 (l : List Int) (hl : l.length ≤ 64) : Ev (fun k => double_Single.j0 k 0 l false) (singleL l 0) := by
  have hw := half_w l (by omega)
  have hw2 : wrap64 (2 * ((l.length / 2 : Nat) : Int)) = ((2 * (l.length / 2) : Nat) : Int) := by rw [w64 (by omega)]; omega
  have hc : cutV l 0 = l.length / 2 := rfl
  refine Ev.step (fun k => by rw [double_Single.j0]) (Ev.ifn (by decide) (Ev.ifp rfl ?_))
  rw [hw, hw2]
  by_cases hz : l.length / 2 = 0
  · exact Ev.ifp (by omega) (Ev.ret (single_no hc (Or.inl hz)).symm)
  · refine Ev.ifn (by omega) (Ev.ifn (by omega) ?_)
    by_cases hp : l.length % 2 = 0
    · refine Ev.ifp (by omega) (Ev.ifp (by omega) (Ev.ifp (by omega) ?_))
      rw [Int.toNat_natCast]
      refine Ev.bind (twice_ev _ (by rw [List.length_take]; omega)) ?_
      rcases hb : halfB (l.take (2 * (l.length / 2))) with _ | _
      · exact Ev.ifn (by decide) (Ev.ret (single_no hc (Or.inr (Or.inr (Or.inr hb)))).symm)
      · refine Ev.ifp rfl (Ev.ifp (by omega) (Ev.ifp (by omega) (Ev.ret ?_)))
        rw [Int.toNat_natCast, single_yes hc (by rw [hb]; simp; omega)]
    · exact Ev.ifn (by omega) (Ev.ret (single_no hc (Or.inr (Or.inr (Or.inl ⟨rfl, hp⟩)))).symm)
theorem single_l1 (l : List Int) (hl : l.length ≤ 64) (m : Nat) (hm : m ≠ 0) (hm2 : m ≤ 64) : Ev (fun k => double_Single.j0 k (m : Int) l false) (singleL l (m : Int)) := by
  have hw2 : wrap64 (2 * (m : Int)) = ((2 * m : Nat) : Int) := by rw [w64 (by omega)]; omega
  have hc : cutV l (m : Int) = m := by unfold cutV; rw [if_neg (by omega), Int.toNat_natCast]
  refine Ev.step (fun k => by rw [double_Single.j0]) (Ev.ifn (by decide) (Ev.ifn (by omega) ?_))
  rw [hw2]
  by_cases h2 : l.length < 2 * m
  · exact Ev.ifp (by omega) (Ev.ret (single_no hc (Or.inr (Or.inl h2))).symm)
  · refine Ev.ifn (by omega) (Ev.ifp (by omega) (Ev.ifp (by omega) ?_))
    rw [Int.toNat_natCast]
    refine Ev.bind (twice_ev _ (by rw [List.length_take]; omega)) ?_
    rcases hb : halfB (l.take (2 * m)) with _ | _
    · exact Ev.ifn (by decide) (Ev.ret (single_no hc (Or.inr (Or.inr (Or.inr hb)))).symm)
    · refine Ev.ifp rfl (Ev.ifp (by omega) (Ev.ifp (by omega) (Ev.ret ?_)))
      rw [Int.toNat_natCast, single_yes hc (by rw [hb]; simp; omega)]
theorem single_ev (F : List ByteArray) (L : List S53) (s : ByteArray) (n : Int) : Ev (fun k => double_Single.f k F L s n) (singleV F L s n) := by
  unfold singleV
  have hl := lettersV_len F L s
  refine Ev.someb (fun _ => letters_eq F L s) ?_
  by_cases h : (lettersV F L s).2 = 0
  · rw [if_pos h]
    refine Ev.ifp h ?_
    by_cases h0 : n < 0
    · rw [if_pos (Or.inl h0)]
      exact Ev.ifp h0 (Ev.step (fun k => by rw [double_Single.j0]) (Ev.ifp rfl (Ev.now _)))
    · refine Ev.ifn h0 ?_
      by_cases h1 : 64 < n
      · rw [if_pos (Or.inr h1)]
        refine Ev.step (fun k => by rw [double_Single.j0]) ?_
        exact Ev.ifp (by simpa using h1) (Ev.now _)
      · rw [if_neg (show ¬ (n < 0 ∨ 64 < n) by omega), decide_eq_false (show ¬ n > 64 by omega)]
        by_cases hn : n = 0
        · subst hn
          exact single_l0 _ hl
        · obtain ⟨m, rfl⟩ := Int.eq_ofNat_of_zero_le (show 0 ≤ n by omega)
          exact single_l1 _ hl m (by omega) (by omega)
  · rw [if_neg h]
    exact Ev.ifn h (Ev.now _)
/-- Two like halves are two like halves. -/
theorem halfB_iff (m : List Int) : halfB m = true ↔ ∃ x : List Int, m = x ++ x := by
  unfold halfB
  rw [Bool.and_eq_true, decide_eq_true_eq, decide_eq_true_eq]
  constructor
  · rintro ⟨h1, h2⟩
    refine ⟨m.take (m.length / 2), ?_⟩
    conv => lhs; rw [← List.take_append_drop (m.length / 2) m, ← h2]
  · rintro ⟨x, rfl⟩
    have e : (x ++ x).length / 2 = x.length := by rw [List.length_append]; omega
    rw [e, List.take_left, List.drop_left]
    exact ⟨by rw [List.length_append]; omega, rfl⟩
end Go.Proofs.YtjnikjnkmcbjfaaDoor.X
