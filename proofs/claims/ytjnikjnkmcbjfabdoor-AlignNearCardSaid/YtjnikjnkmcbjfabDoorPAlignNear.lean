/- The plain law of AlignNear: the nearest word costs what its alignment does, and none less; none ahead of it as little. -/
import Derived.Test.YtjnikjnkmcbjfabDoorPAlign
import Derived.Test.YtjnikjnkmcbjfabDoorGAlignN
import Derived.Test.YtjnikjnkmcbjfabDoorX29
namespace Go.Proofs.YtjnikjnkmcbjfabDoor.X
open Go.RowKit Go.Proofs.YtjnikjnkmcbjfabDoorW.PrintWords Go.Proofs.YtjnikjnkmcbjfabDoorW.PrintLast Go.Proofs.YtjnikjnkmcbjfabDoorW.PrintMore
def NearOk (f : ByteArray → Int) (full : List ByteArray) (r : Nat × Int) : Prop := ∃ h : r.1 < full.length, r.2 = f full[r.1] ∧ (∀ (j : Nat) (h : j < full.length), r.2 ≤ f full[j]) ∧ ∀ (j : Nat) (h : j < full.length), j < r.1 → r.2 < f full[j]
theorem nearL_spec (f : ByteArray → Int) (full : List ByteArray) : ∀ (l : List ByteArray) (i a : Nat) (c : Int), full.drop i = l → i ≤ full.length →
    (i = 0 ∨ (a < i ∧ (∃ h : a < full.length, c = f full[a]) ∧ (∀ (j : Nat) (h : j < full.length), j < i → c ≤ f full[j]) ∧ ∀ (j : Nat) (h : j < full.length), j < a → c < f full[j])) → 0 < full.length →
    NearOk f full (nearL f l i a c)
  | [], i, a, c, hd, hi, hp, h0 => by
    have hlen := congrArg List.length hd
    rw [List.length_drop] at hlen
    simp only [List.length_nil] at hlen
    rcases hp with hp | ⟨h1, ⟨h2, h3⟩, h4, h5⟩
    · omega
    · exact ⟨h2, h3, fun j hj => h4 j hj (by omega), h5⟩
  | s :: l, i, a, c, hd, hi, hp, h0 => by
    have hlt : i < full.length := by
      rcases Nat.lt_or_ge i full.length with h | h
      · exact h
      · rw [List.drop_eq_nil_of_le h] at hd
        cases hd
    have hd2 := List.drop_eq_getElem_cons hlt
    rw [hd] at hd2
    obtain ⟨rfl, rfl⟩ := List.cons.inj hd2
    unfold nearL
    by_cases hc : i = 0 ∨ f full[i] < c
    · rw [if_pos hc]
      refine nearL_spec f full _ (i + 1) i (f full[i]) rfl (by omega) (Or.inr ⟨by omega, ⟨hlt, rfl⟩, fun j hj hji => ?_, fun j hj hji => ?_⟩) h0
      · rcases Nat.lt_or_ge j i with h | h
        · rcases hp with hp | ⟨_, _, h4, _⟩
          · omega
          · have := h4 j hj h
            rcases hc with hc | hc
            · omega
            · omega
        · obtain rfl : j = i := by omega
          exact Int.le_refl _
      · rcases hp with hp | ⟨_, _, h4, _⟩
        · omega
        · have := h4 j hj hji
          rcases hc with hc | hc
          · omega
          · omega
    · rw [if_neg hc]
      rcases hp with hp | ⟨h1, h2, h4, h5⟩
      · exact absurd (Or.inl hp) hc
      · refine nearL_spec f full _ (i + 1) a c rfl (by omega) (Or.inr ⟨by omega, h2, fun j hj hji => ?_, h5⟩) h0
        rcases Nat.lt_or_ge j i with h | h
        · exact h4 j hj h
        · obtain rfl : j = i := by omega
          have : ¬ f full[j] < c := fun h => hc (Or.inr h)
          omega
theorem rdB (l : List ByteArray) (i : Nat) (h : i < l.length) : rdOf ByteArray.empty l (i : Int) = l[i] := by simp [rdOf, List.getD_eq_getElem?_getD, h]
theorem alignNear_l0 (F : List ByteArray) (L : List S91) (s : ByteArray) (l : List ByteArray) (hs : (lettersV F L s).2 = 0) (hl : ∀ t ∈ l, (lettersV F L t).2 = 0) (hn : l.length ≤ 60) (a : Nat) (c : Int) (ha : a < l.length) (hc : c = costTo F L s l[a]) (hle : ∀ (j : Nat) (h : j < l.length), c ≤ costTo F L s l[j]) (hlt : ∀ (j : Nat) (h : j < l.length), j < a → c < costTo F L s l[j]) :
    ∀ (d i : Nat), l.length - i = d → i ≤ l.length → Ev (fun k => cognatelaw21_AlignNear.l0 k s l (a : Int) c (i : Int) F L) true := by
  intro d
  induction d with
  | zero =>
    intro i hd hi
    exact Ev.step (fun k => by rw [cognatelaw21_AlignNear.l0]) (Ev.ifn (by omega) (Ev.now _))
  | succ d ih =>
    intro i hd hi
    have hi2 : i < l.length := by omega
    have hj : Ev (fun k => cognatelaw21_AlignNear.j2 k s l (a : Int) c (i : Int) false F L) true := by
      refine Ev.step (fun k => by rw [cognatelaw21_AlignNear.j2]) (Ev.ifn (by decide) ?_)
      rw [w64s (by omega)]
      exact ih (i + 1) (by omega) (by omega)
    have hw := words_ok hs (hl _ (List.getElem_mem hi2))
    have h1 := hle i hi2
    refine Ev.step (fun k => by rw [cognatelaw21_AlignNear.l0]) (Ev.ifp (by omega) (Ev.ifp (by omega) (Ev.someb (fun _ => words_eq _ _ _ _) ?_)))
    rw [rdB l i hi2, hw]
    refine Ev.ifp rfl ?_
    show Ev (fun k => if costTo F L s l[i] < c then _ else _) true
    refine Ev.ifn (by omega) ?_
    have he : i = a → Ev (fun k => cognatelaw21_AlignNear.j2 k s l (a : Int) c (i : Int) (costTo F L s l[i] != c) F L) true := fun e => by
      subst e
      rw [← hc, show (c != c) = false by simp]
      exact hj
    by_cases hia : i < a
    · refine Ev.ifp (by omega) ?_
      have := hlt i hi2 hia
      show Ev (fun k => if costTo F L s l[i] = c then _ else _) true
      exact Ev.ifn (by omega) (Ev.ifn (by omega) hj)
    · refine Ev.ifn (by omega) ?_
      by_cases e : i = a
      · exact Ev.ifp (by omega) (he e)
      · exact Ev.ifn (by omega) hj
theorem alignNear_law (F : List ByteArray) (L : List S91) (s : ByteArray) (l : List ByteArray) : ∃ k, cognatelaw21_AlignNear.f k F L s l = some true := by
  refine Ev.rounds (Ev.someb (fun _ => awake21_eq) (Ev.ifp rfl ?_))
  by_cases h60 : (l.length : Int) > 60
  · exact Ev.ifp h60 (Ev.now _)
  · refine Ev.ifn h60 (Ev.someb (fun _ => (rfl : align_Nearest.f F L s l = some (nearestV F L s l))) ?_)
    unfold nearestV
    by_cases hs : (lettersV F L s).2 = 0
    · rw [if_pos hs, if_neg (by omega)]
      by_cases hf : firstErr F L l = 0
      · rw [if_pos hf]
        by_cases h0 : l.length = 0
        · rw [if_pos h0]
          exact Ev.ifn (by decide) (Ev.ifp rfl (Ev.ret rfl))
        · rw [if_neg h0]
          obtain ⟨h1, h2, h3, h4⟩ := nearL_spec (costTo F L s) l l 0 0 0 rfl (Nat.zero_le _) (Or.inl rfl) (by omega)
          refine Ev.ifp rfl (Ev.ifn (by omega) ?_)
          rw [decide_eq_false (by show ¬ ((nearL (costTo F L s) l 0 0 0).1 : Int) ≥ (l.length : Int); omega)]
          refine Ev.step (fun k => by rw [cognatelaw21_AlignNear.j0]) (Ev.ifn (by decide) ?_)
          exact alignNear_l0 F L s l hs (firstErr_all hf) (by omega) _ _ h1 h2 h3 h4 l.length 0 rfl (Nat.zero_le _)
      · rw [if_neg hf]
        exact Ev.ifn hf (Ev.ifp rfl (Ev.ret rfl))
    · rw [if_neg hs]
      exact Ev.ifn hs (Ev.ifp rfl (Ev.ret rfl))
end Go.Proofs.YtjnikjnkmcbjfabDoor.X
