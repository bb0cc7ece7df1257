/- The plain law: the document's Front, Whole, Peak and Single answer as the program's. No program in sight. -/
import Derived.Test.YtjnikjnkmcbjfaaDoorPFront
import Derived.Test.YtjnikjnkmcbjfaaDoorPLetters
import Derived.Test.YtjnikjnkmcbjfaaDoorPRefClass
import Derived.Test.YtjnikjnkmcbjfaaDoorPDouble
import Derived.Test.YtjnikjnkmcbjfaaDoorX25
namespace Go.Proofs.YtjnikjnkmcbjfaaDoor.X
open Go.RowKit Go.Proofs.YtjnikjnkmcbjfaaDoorW.PrintWords Go.Proofs.YtjnikjnkmcbjfaaDoorW.PrintLast Go.Proofs.YtjnikjnkmcbjfaaDoorW.PrintMore
theorem rune_uniq {F : List ByteArray} {L : List S53} (h : checkB F L = true) {i j : Nat} (hi : i < L.length) (hj : j < L.length) (e : (rd_T53 L (i : Int)).f0 = (rd_T53 L (j : Int)).f0) : i = j := by
  simp only [checkB, Bool.and_eq_true] at h
  have h3 := h.2
  simp only [lettersB, List.all_eq_true, List.mem_range] at h3
  have key : ∀ a b : Nat, a < b → b < L.length → (rd_T53 L (a : Int)).f0 ≠ (rd_T53 L (b : Int)).f0 := fun a b hab hb e => by
    have h4 := h3 b hb
    simp only [Bool.and_eq_true, Bool.not_eq_true', decide_eq_false_iff_not] at h4
    refine h4.1.2 (List.mem_map.2 ⟨L[a], ?_, ?_⟩)
    · rw [List.mem_take_iff_getElem]
      exact ⟨a, by omega, rfl⟩
    · rw [← e]
      simp [rd_T53, show a < L.length by omega]
  rcases Nat.lt_trichotomy i j with h5 | h5 | h5
  · exact absurd e (key i j h5 hj)
  · exact h5
  · exact absurd e.symm (key j i h5 hi)
theorem class_mem {F : List ByteArray} {L : List S53} (h : checkB F L = true) {p : Int} (hw : withinB F p 0 = true) {j : Nat} (hj : j < L.length) : ((rd_T53 L (j : Int)).f0 ∈ (classV F L p 0).1) ↔ likeB (rd_T53 L (j : Int)) p 0 = true := by
  unfold classV
  rw [if_pos h, if_pos hw]
  simp only [List.mem_map, List.mem_filter]
  constructor
  · rintro ⟨x, ⟨hx, hl⟩, e⟩
    obtain ⟨i, hi, rfl⟩ := List.getElem_of_mem hx
    have e2 : i = j := rune_uniq h hi hj (by rw [rdL L i hi]; exact e)
    subst e2
    rw [rdL L i hi]
    exact hl
  · intro hl
    rw [rdL L j hj] at hl ⊢
    exact ⟨L[j], ⟨List.getElem_mem hj, hl⟩, rfl⟩
theorem number2_l0 (F : List ByteArray) (L : List S53) (r : Int) (hL : L.length ≤ 1000000) (j : Nat) (hj : j < L.length) (e : (rd_T53 L (j : Int)).f0 = r) (hf : ∀ i, i < j → (rd_T53 L (i : Int)).f0 ≠ r) : ∀ (d i : Nat), j - i = d → i ≤ j → Ev (fun k => cognateref03_Number.l0 k r (i : Int) F L) (j : Int) := by
  intro d
  induction d with
  | zero =>
    intro i hd hi
    obtain rfl : i = j := by omega
    exact Ev.step (fun k => by rw [cognateref03_Number.l0]) (Ev.ifp (by omega) (Ev.ifp (by omega) (Ev.ifp e (Ev.now _))))
  | succ d ih =>
    intro i hd hi
    refine Ev.step (fun k => by rw [cognateref03_Number.l0]) (Ev.ifp (by omega) (Ev.ifp (by omega) (Ev.ifn (hf i (by omega)) ?_)))
    rw [w64s (by omega)]
    exact ih (i + 1) (by omega) (by omega)
theorem has3_ev {F : List ByteArray} {L : List S53} (hw : WfL L) (h : checkB F L = true) {p : Int} (hp : U32 p) (hin : withinB F p 0 = true) (r : Int) (hr : r ∈ L.map (·.f0)) : Ev (fun k => cognateref03_Has.f k F L r p 0) (decide (r ∈ (classV F L p 0).1)) := by
  obtain ⟨j, hj, rfl⟩ := (mem_runes L r).1 hr
  have hL := (check_feats h).2.2
  refine Ev.bind (number2_l0 F L _ (by omega) j hj rfl (fun i hi e => by have := rune_uniq h (by omega) hj e; omega) j 0 (by omega) (by omega)) ?_
  refine Ev.ifp (by omega) (Ev.ifp (by omega) (Ev.ifp (by omega) ?_))
  have hk := refLike_eq h hw j hj p 0 hp ⟨by decide, by decide⟩
  unfold cognateref02_Like.f at hk
  rw [show decide ((rd_T53 L (j : Int)).f0 ∈ (classV F L p 0).1) = likeB (rd_T53 L (j : Int)) p 0 by rw [Bool.eq_iff_iff, decide_eq_true_iff]; exact class_mem h hin hj]
  rw [hk]
  exact Ev.now _
theorem doubled_eq (l : List Int) (n : Nat) (hn : n ≤ l.length) (hl : l.length ≤ 1000) : cognateref15_Doubled.f l (n : Int) = some (l.take n ++ l) := by
  unfold cognateref15_Doubled.f
  rw [if_pos (by omega), if_pos (by omega), Int.toNat_natCast, if_pos (by rw [List.length_take]; simp only [List.length_nil]; omega), List.nil_append, Option.bind_some, if_pos (by rw [List.length_take]; omega)]
theorem refFront_ev (F : List ByteArray) (L : List S53) (s : ByteArray) (n : Int) : Ev (fun k => cognateref15_Front.f k F L s n) (frontV F L s n) := by
  unfold frontV
  have hl := lettersV_len F L s
  refine Ev.bind (refLetters_ev F L s) ?_
  by_cases h : (lettersV F L s).2 = 0
  · rw [if_pos h]
    refine Ev.ifp h ?_
    by_cases h0 : n < 0
    · rw [if_pos (Or.inl h0)]
      exact Ev.ifp h0 (Ev.step (fun k => by rw [cognateref15_Front.j0]) (Ev.ifp rfl (Ev.now _)))
    · refine Ev.ifn h0 (Ev.step (fun k => by rw [cognateref15_Front.j0]) ?_)
      by_cases h1 : 64 < n
      · rw [if_pos (Or.inr h1)]
        exact Ev.ifp (by simpa using h1) (Ev.now _)
      · rw [if_neg (show ¬ (n < 0 ∨ 64 < n) by omega)]
        refine Ev.ifn (by simpa using h1) ?_
        by_cases h2 : ((lettersV F L s).1.length : Int) < n
        · refine Ev.ifp h2 (Ev.ret ?_)
          rw [if_pos h2]
        · refine Ev.ifn h2 ?_
          rw [if_neg h2]
          obtain ⟨m, rfl⟩ := Int.eq_ofNat_of_zero_le (show 0 ≤ n by omega)
          exact Ev.someb (fun _ => doubled_eq _ m (by omega) (by omega)) (Ev.ret (by rw [Int.toNat_natCast]))
  · rw [if_neg h]
    exact Ev.ifn h (Ev.now _)
theorem refWhole_ev (F : List ByteArray) (L : List S53) (s : ByteArray) : Ev (fun k => cognateref15_Whole.f k F L s) (wholeV F L s) := by
  have hc : Ev (fun k => cognateref03_Check.f k F L s) (lettersV F L s).2 := Ev.bind (refLetters_ev F L s) (Ev.now _)
  refine Ev.bind hc ?_
  unfold wholeV
  by_cases h : (lettersV F L s).2 = 0
  · obtain ⟨_, hsz, hw, _⟩ := letters_ok h
    refine Ev.ifp h (Ev.ifp (by omega) (Ev.ret ?_))
    rw [if_pos h, runes_append, hw]
  · refine Ev.ifn h (Ev.ret ?_)
    rw [if_neg h]
/-- What feature's class C makes of letters: all up to the first one of it doubled. -/
def peakL (C : List Int) (l : List Int) : ByteArray × Int :=
  match l.findIdx? (fun r => decide (r ∈ C)) with
  | some i => (runesBytes (l.take (i + 1) ++ l), 0)
  | none => ((⟨#[]⟩ : ByteArray), 150)
def peakV (F : List ByteArray) (L : List S53) (s : ByteArray) (p : Int) : ByteArray × Int :=
  if (lettersV F L s).2 = 0 then (if (classV F L p 0).2 = 0 then peakL (classV F L p 0).1 (lettersV F L s).1 else ((⟨#[]⟩ : ByteArray), (classV F L p 0).2)) else ((⟨#[]⟩ : ByteArray), (lettersV F L s).2)
theorem peakL_none {C l : List Int} (h : ∀ (i : Nat) (hi : i < l.length), l[i] ∉ C) : peakL C l = ((⟨#[]⟩ : ByteArray), 150) := by
  unfold peakL
  rw [List.findIdx?_eq_none_iff.2 (fun x hx => ?_)]
  obtain ⟨i, hi, rfl⟩ := List.getElem_of_mem hx
  simpa using h i hi
theorem peakL_some {C l : List Int} {i : Nat} (hi : i < l.length) (hm : l[i] ∈ C) (h : ∀ (j : Nat) (hj : j < l.length), j < i → l[j] ∉ C) : peakL C l = (runesBytes (l.take (i + 1) ++ l), 0) := by
  unfold peakL
  rw [show l.findIdx? (fun r => decide (r ∈ C)) = some i from List.findIdx?_eq_some_iff_getElem.2 ⟨hi, by simpa using hm, fun j hj => by simpa using h j (by omega) hj⟩]
theorem class_ok {F : List ByteArray} {L : List S53} {p : Int} (h : (classV F L p 0).2 = 0) : checkB F L = true ∧ withinB F p 0 = true := by
  unfold classV at h
  rcases hc : checkB F L with _ | _
  · simp [hc] at h
  · rcases hw : withinB F p 0 with _ | _
    · simp [hc, hw] at h
    · exact ⟨rfl, rfl⟩
theorem refPeak_l0 (F : List ByteArray) (L : List S53) (hw : WfL L) (h : checkB F L = true) (p : Int) (hp : U32 p) (hin : withinB F p 0 = true) (l : List Int) (hl : l.length ≤ 64) (hm : ∀ x ∈ l, x ∈ L.map (·.f0)) : ∀ (d i : Nat), l.length - i = d → i ≤ l.length → (∀ (j : Nat) (hj : j < l.length), j < i → l[j] ∉ (classV F L p 0).1) → Ev (fun k => cognateref15_Peak.l0 k p l (i : Int) F L) (peakL (classV F L p 0).1 l) := by
  intro d
  induction d with
  | zero =>
    intro i hd hi hf
    refine Ev.step (fun k => by rw [cognateref15_Peak.l0]) (Ev.ifn (by omega) (Ev.ret ?_))
    exact (peakL_none (fun j hj => hf j hj (by omega))).symm
  | succ d ih =>
    intro i hd hi hf
    have hi2 : i < l.length := by omega
    refine Ev.step (fun k => by rw [cognateref15_Peak.l0]) (Ev.ifp (by omega) (Ev.ifp (by omega) ?_))
    rw [rdn l i hi2]
    refine Ev.bind (has3_ev hw h hp hin l[i] (hm _ (List.getElem_mem hi2))) ?_
    rw [w64s (by omega)]
    by_cases hc : l[i] ∈ (classV F L p 0).1
    · rw [peakL_some hi2 hc hf]
      exact Ev.ifp (decide_eq_true hc) (Ev.someb (fun _ => doubled_eq _ (i + 1) (by omega) (by omega)) (Ev.now _))
    · refine Ev.ifn (by simpa using hc) (ih (i + 1) (by omega) (by omega) (fun j hj hji => ?_))
      rcases Nat.lt_or_ge j i with h1 | h1
      · exact hf j hj h1
      · obtain rfl : j = i := by omega
        exact hc
theorem refPeak_ev (F : List ByteArray) (L : List S53) (hw : WfL L) (s : ByteArray) (p : Int) (hp : U32 p) : Ev (fun k => cognateref15_Peak.f k F L s p) (peakV F L s p) := by
  unfold peakV
  refine Ev.bind (refLetters_ev F L s) ?_
  have hl := lettersV_len F L s
  by_cases h : (lettersV F L s).2 = 0
  · rw [if_pos h]
    refine Ev.ifp h (Ev.bind (refClass_ev F L hw p 0 hp ⟨by decide, by decide⟩) ?_)
    by_cases hc : (classV F L p 0).2 = 0
    · rw [if_pos hc]
      obtain ⟨h1, h2⟩ := class_ok hc
      obtain ⟨_, _, _, hm⟩ := letters_ok h
      exact Ev.ifp hc (refPeak_l0 F L hw h1 p hp h2 _ hl hm _ 0 rfl (by omega) (fun j hj h => by omega))
    · rw [if_neg hc]
      exact Ev.ifn hc (Ev.now _)
  · rw [if_neg h]
    exact Ev.ifn h (Ev.now _)
theorem refSingle_j1n (l : List Int) (n : Int) (hn : n = 0) (r : ByteArray × Bool × Int) (hr : ((⟨#[]⟩ : ByteArray), false, (0 : Int)) = r) : Ev (fun k => cognateref15_Single.j1 k n l false) r :=
  Ev.step (fun k => by rw [cognateref15_Single.j1]) (Ev.ifn (by decide) (Ev.ifn (by omega) (Ev.ret hr)))
theorem refSingle_l0 (l : List Int) (hl : l.length ≤ 64) (hm : ∀ x ∈ l, letterB x = true) : Ev (fun k => cognateref15_Single.j0 k 0 l false) (singleL l 0) := by
  have hw := half_w l (by omega)
  have hc : cutV l 0 = l.length / 2 := rfl
  refine Ev.step (fun k => by rw [cognateref15_Single.j0]) (Ev.ifn (by decide) (Ev.ifp rfl ?_))
  by_cases h0 : (l.length : Int) > 0
  · refine Ev.ifp h0 (Ev.someb (fun _ => square_eq l (by omega) hm) ?_)
    rcases hb : halfB l with _ | _
    · refine refSingle_j1n l 0 rfl _ ?_
      by_cases hp : l.length % 2 = 0
      · refine (single_no hc (Or.inr (Or.inr (Or.inr ?_)))).symm
        rw [List.take_of_length_le (by omega)]
        exact hb
      · exact (single_no hc (Or.inr (Or.inr (Or.inl ⟨rfl, hp⟩)))).symm
    · refine Ev.step (fun k => by rw [cognateref15_Single.j1]) (Ev.ifp rfl ?_)
      rw [hw]
      obtain ⟨x, rfl⟩ := (halfB_iff l).1 hb
      have hx : (x ++ x).length / 2 = x.length := by rw [List.length_append]; omega
      have hxl : (x ++ x).length = 2 * x.length := by rw [List.length_append]; omega
      refine Ev.ifp (by omega) (Ev.ifp (by omega) (Ev.ret ?_))
      rw [single_yes hc (by rw [hx, List.take_of_length_le (by omega), hb, hxl]; rintro (h | h | ⟨_, h⟩ | h) <;> first | omega | cases h), Int.toNat_natCast, hx, List.take_left, List.drop_left]
  · refine Ev.ifn h0 (refSingle_j1n l 0 rfl _ ?_)
    exact (single_no hc (Or.inl (by omega))).symm
theorem refSingle_l1 (l : List Int) (hl : l.length ≤ 64) (hm : ∀ x ∈ l, letterB x = true) (m : Nat) (hz : m ≠ 0) (hm2 : m ≤ 64) : Ev (fun k => cognateref15_Single.j0 k (m : Int) l false) (singleL l (m : Int)) := by
  have hw2 : wrap64 (2 * (m : Int)) = ((2 * m : Nat) : Int) := by rw [w64 (by omega)]; omega
  have hc : cutV l (m : Int) = m := by unfold cutV; rw [if_neg (by omega), Int.toNat_natCast]
  refine Ev.step (fun k => by rw [cognateref15_Single.j0]) (Ev.ifn (by decide) (Ev.ifn (by omega) ?_))
  refine Ev.step (fun k => by rw [cognateref15_Single.j1]) (Ev.ifn (by decide) (Ev.ifp (by omega) ?_))
  rw [hw2]
  by_cases h2 : l.length < 2 * m
  · exact Ev.ifn (by omega) (Ev.ret (single_no hc (Or.inr (Or.inl h2))).symm)
  · refine Ev.ifp (by omega) (Ev.ifp (by omega) (Ev.ifp (by omega) ?_))
    rw [Int.toNat_natCast]
    refine Ev.someb (fun _ => square_eq _ (by rw [List.length_take]; omega) (fun x hx => hm x (List.mem_of_mem_take hx))) ?_
    rcases hb : halfB (l.take (2 * m)) with _ | _
    · exact Ev.ifn (by decide) (Ev.ret (single_no hc (Or.inr (Or.inr (Or.inr hb)))).symm)
    · refine Ev.ifp rfl (Ev.ifp (by omega) (Ev.ifp (by omega) (Ev.ret ?_)))
      rw [Int.toNat_natCast, single_yes hc (by rw [hb]; simp; omega)]
theorem refSingle_ev (F : List ByteArray) (L : List S53) (s : ByteArray) (n : Int) : Ev (fun k => cognateref15_Single.f k F L s n) (singleV F L s n) := by
  unfold singleV
  have hl := lettersV_len F L s
  refine Ev.bind (refLetters_ev F L s) ?_
  by_cases h : (lettersV F L s).2 = 0
  · rw [if_pos h]
    refine Ev.ifp h ?_
    by_cases h0 : n < 0
    · rw [if_pos (Or.inl h0)]
      exact Ev.ifp h0 (Ev.step (fun k => by rw [cognateref15_Single.j0]) (Ev.ifp rfl (Ev.now _)))
    · refine Ev.ifn h0 ?_
      by_cases h1 : 64 < n
      · rw [if_pos (Or.inr h1)]
        refine Ev.step (fun k => by rw [cognateref15_Single.j0]) ?_
        exact Ev.ifp (by simpa using h1) (Ev.now _)
      · rw [if_neg (show ¬ (n < 0 ∨ 64 < n) by omega), decide_eq_false (show ¬ n > 64 by omega)]
        by_cases hn : n = 0
        · subst hn
          exact refSingle_l0 _ hl (lettersV_letter F L s)
        · obtain ⟨m, rfl⟩ := Int.eq_ofNat_of_zero_le (show 0 ≤ n by omega)
          exact refSingle_l1 _ hl (lettersV_letter F L s) m (by omega) (by omega)
  · rw [if_neg h]
    exact Ev.ifn h (Ev.now _)
end Go.Proofs.YtjnikjnkmcbjfaaDoor.X
