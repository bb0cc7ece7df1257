/- The plain law of AlignThree: 0 just of a word and itself, the same either way round, never more than by way of a third. -/
import Derived.Test.YtjnikjnkmcbjfabDoorPAlign
import Derived.Test.YtjnikjnkmcbjfabDoorX28
namespace Go.Proofs.YtjnikjnkmcbjfabDoor.X
open Go.RowKit Go.Proofs.YtjnikjnkmcbjfabDoorW.PrintWords Go.Proofs.YtjnikjnkmcbjfabDoorW.PrintLast Go.Proofs.YtjnikjnkmcbjfabDoorW.PrintMore
theorem alignThree_j0 (p c q d r e : Int) (hp : 0 ≤ p) (h : c = 0 → d = 0 → e = 0 ∧ r ≤ wrap64 (p + q)) : Ev (fun k => cognatelaw21_AlignThree.j0 k p c q d r e (decide (p < 0))) true := by
  refine Ev.step (fun k => by rw [cognatelaw21_AlignThree.j0]) (Ev.ifn (by simp only [decide_eq_true_eq]; omega) ?_)
  by_cases h1 : c = 0
  · refine Ev.ifp h1 ?_
    by_cases h2 : d = 0
    · obtain ⟨h3, h4⟩ := h h1 h2
      exact Ev.ifp h2 (Ev.ifp h3 (Ev.ret (decide_eq_true h4)))
    · exact Ev.ifn h2 (Ev.now _)
  · exact Ev.ifn h1 (Ev.now _)
theorem alignThree_law (F : List ByteArray) (L : List S91) (hw : WfL L) (x y z : ByteArray) : ∃ k, cognatelaw21_AlignThree.f k F L x y z = some true := by
  refine Ev.rounds (Ev.someb (fun _ => awake21_eq) (Ev.ifp rfl (Ev.someb (fun _ => words_eq F L x y) (Ev.someb (fun _ => words_eq F L y z) (Ev.someb (fun _ => words_eq F L x z) (Ev.someb (fun _ => words_eq F L y x) ?_))))))
  by_cases hxy : (lettersV F L x).2 = 0 ∧ (lettersV F L y).2 = 0
  · obtain ⟨hx, hy⟩ := hxy
    have e1 := words_ok hx hy
    have e2 := words_ok hy hx
    have hsym := cst_sym (dd F L) (dd_symm hw) _ (lettersV F L x).1 (lettersV F L y).1 (Nat.le_refl _)
    have hge := cst_ge (dd F L) (fun a b => (dd_in F L a b).1) (lettersV F L x).1 (lettersV F L y).1
    have hle := words_le F L x y
    rw [e1, e2]
    refine Ev.ifn (by simp) (Ev.ifp hsym (Ev.ifp rfl (Ev.ifn ?_ ?_)))
    · have h0 := words_zero hx hy
      have : (cst (dd F L) (lettersV F L x).1 (lettersV F L y).1 == 0) = (x.toList == y.toList) := by
        rw [Bool.eq_iff_iff, beq_iff_eq, beq_iff_eq, h0, ByteArray.toList_eq, ByteArray.toList_eq]
        exact ⟨fun h => by rw [h], fun h => ByteArray.ext (Array.toList_inj.1 h)⟩
      simp only [this]
      simp
    · refine alignThree_j0 _ _ _ _ _ _ hge (fun _ hd => ?_)
      have hz : (lettersV F L z).2 = 0 := by
        by_cases hz : (lettersV F L z).2 = 0
        · exact hz
        · exact absurd hd (words_bad (fun h => hz h.2)).2
      have e3 := words_ok hy hz
      have e4 := words_ok hx hz
      have hle2 := words_le F L y z
      have hge2 := cst_ge (dd F L) (fun a b => (dd_in F L a b).1) (lettersV F L y).1 (lettersV F L z).1
      rw [e3, e4]
      refine ⟨rfl, ?_⟩
      obtain ⟨hc, _, _, mx⟩ := letters_ok hx
      obtain ⟨_, _, _, my⟩ := letters_ok hy
      obtain ⟨_, _, _, mz⟩ := letters_ok hz
      have ht := cst_tri (dd F L) (fun a b => (dd_in F L a b).1) (fun a => a ∈ L.map (·.f0)) (fun a b c _ hb _ => dd_tri hw a b c (ofV_in hc hb)) _ (lettersV F L x).1 (lettersV F L y).1 (lettersV F L z).1 (Nat.le_refl _) mx my mz
      show cst (dd F L) (lettersV F L x).1 (lettersV F L z).1 ≤ wrap64 (cst (dd F L) (lettersV F L x).1 (lettersV F L y).1 + cst (dd F L) (lettersV F L y).1 (lettersV F L z).1)
      rw [w64 (by omega)]
      exact ht
  · obtain ⟨a1, a2⟩ := words_bad hxy
    obtain ⟨b1, b2⟩ := words_bad (F := F) (L := L) (s := y) (t := x) (fun h => hxy ⟨h.2, h.1⟩)
    refine Ev.ifn ?_ (Ev.ifp (by rw [a1, b1]) (Ev.ifn a2 (alignThree_j0 _ _ _ _ _ _ (by rw [a1]; omega) (fun h => absurd h a2))))
    rw [beq_eq_false_iff_ne.2 a2, beq_eq_false_iff_ne.2 b2]
    decide
end Go.Proofs.YtjnikjnkmcbjfabDoor.X
