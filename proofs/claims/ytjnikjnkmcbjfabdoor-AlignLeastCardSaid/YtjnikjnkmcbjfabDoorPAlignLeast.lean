/- The plain law of AlignLeast, the stage's theorem: no alignment costs less. -/
import Derived.Test.YtjnikjnkmcbjfabDoorPAlign
import Derived.Test.YtjnikjnkmcbjfabDoorPSum
import Derived.Test.YtjnikjnkmcbjfabDoorX31
namespace Go.Proofs.YtjnikjnkmcbjfabDoor.X
open Go.RowKit Go.Proofs.YtjnikjnkmcbjfabDoorW.PrintWords Go.Proofs.YtjnikjnkmcbjfabDoorW.PrintLast Go.Proofs.YtjnikjnkmcbjfabDoorW.PrintMore
theorem prs_pq : ∀ l : List (Int × Int), (prs l).map pq = l
  | [] => rfl
  | p :: l => by
    rw [prs_cons, List.map_cons, prs_pq l]
    rfl
theorem many_in {F : List ByteArray} {L : List S91} {s t : ByteArray} (h1 : (lettersV F L s).2 = 0) (h2 : (lettersV F L t).2 = 0) : (manyV F L s t 7).2 = 0 ∧ 1 ≤ (manyV F L s t 7).1 ∧ (manyV F L s t 7).1 ≤ 7 := by
  have h := mny_in (dd F L) _ (lettersV F L s).1 (lettersV F L t).1 (Nat.le_refl _)
  unfold manyV
  rw [if_pos h1, if_pos h2, if_neg (by omega)]
  exact ⟨rfl, by show 1 ≤ min _ 7; omega, by show min _ 7 ≤ 7; omega⟩
theorem alignLeast_j0 (F : List ByteArray) (L : List S91) (x y : ByteArray) (l : List S44) (hx : (lettersV F L x).2 = 0) (hy : (lettersV F L y).2 = 0) : Ev (fun k => cognatelaw21_AlignLeast.j0 k x y l (cst (dd F L) (lettersV F L x).1 (lettersV F L y).1) false F L) true := by
  refine Ev.step (fun k => by rw [cognatelaw21_AlignLeast.j0]) (Ev.ifn (by decide) (Ev.bind (both_ev F L l) (Ev.bind (sum_ev F L l) ?_)))
  by_cases he : (sumV F L l).2 = 0
  · obtain ⟨hc, hlen, hs, hm⟩ := sumV_ok he
    have hb : bothV F L l = (runesBytes (lefts (l.map pq)), runesBytes (rights (l.map pq)), 0) := by unfold bothV; rw [if_pos he]
    rw [hb]
    refine Ev.ifp he.symm (Ev.ifp rfl ?_)
    obtain ⟨_, _, rx, mx⟩ := letters_ok hx
    obtain ⟨_, _, ry, my⟩ := letters_ok hy
    have lx := lettersV_letter F L x
    have ly := lettersV_letter F L y
    have bl : ∀ a ∈ lefts (l.map pq), letterB a = true := fun a ha => by
      unfold lefts at ha
      obtain ⟨h1, h2⟩ := List.mem_filter.1 ha
      obtain ⟨q, hq, rfl⟩ := List.mem_map.1 h1
      obtain ⟨p, hp, rfl⟩ := List.mem_map.1 hq
      exact check_letter hc _ ((hm p hp).2.1.resolve_left (by simp at h2; exact h2))
    have br : ∀ a ∈ rights (l.map pq), letterB a = true := fun a ha => by
      unfold rights at ha
      obtain ⟨h1, h2⟩ := List.mem_filter.1 ha
      obtain ⟨q, hq, rfl⟩ := List.mem_map.1 h1
      obtain ⟨p, hp, rfl⟩ := List.mem_map.1 hq
      exact check_letter hc _ ((hm p hp).2.2.resolve_left (by simp at h2; exact h2))
    have e1 := runes_eq (lefts (l.map pq)) (lettersV F L x).1 bl lx
    have e2 := runes_eq (rights (l.map pq)) (lettersV F L y).1 br ly
    rw [rx] at e1
    rw [ry] at e2
    by_cases c1 : (runesBytes (lefts (l.map pq))).toList = x.toList
    · refine Ev.ifp c1 ?_
      by_cases c2 : (runesBytes (rights (l.map pq))).toList = y.toList
      · refine Ev.ifp c2 (Ev.ret (decide_eq_true ?_))
        rw [beq_iff_eq.2 c1] at e1
        rw [beq_iff_eq.2 c2] at e2
        have g1 := of_decide_eq_true e1.symm
        have g2 := of_decide_eq_true e2.symm
        have h := cst_least (dd F L) (dd_self F L) (l.map pq) (fun q hq => by
          obtain ⟨p, hp, rfl⟩ := List.mem_map.1 hq
          exact (hm p hp).1)
        rw [g1, g2, ← hs] at h
        exact h
      · exact Ev.ifn c2 (Ev.now _)
    · exact Ev.ifn c1 (Ev.now _)
  · have hb : (bothV F L l).2.2 = (sumV F L l).2 := by unfold bothV; rw [if_neg he]
    rw [hb]
    exact Ev.ifp rfl (Ev.ifn he (Ev.now _))
theorem alignLeast_law (F : List ByteArray) (L : List S91) (x y : ByteArray) (l : List S44) : ∃ k, cognatelaw21_AlignLeast.f k F L x y l = some true := by
  refine Ev.rounds (Ev.someb (fun _ => awake21_eq) (Ev.ifp rfl (Ev.someb (fun _ => words_eq F L x y) ?_)))
  by_cases hxy : (lettersV F L x).2 = 0 ∧ (lettersV F L y).2 = 0
  · obtain ⟨hx, hy⟩ := hxy
    rw [words_ok hx hy]
    obtain ⟨hc, _, rx, mx⟩ := letters_ok hx
    obtain ⟨_, _, ry, my⟩ := letters_ok hy
    have nx := lettersV_len F L x
    have ny := lettersV_len F L y
    obtain ⟨f1, f2, f3, f4, f5⟩ := fst_ok (dd F L) (dd_self F L) _ (lettersV F L x).1 (lettersV F L y).1 (Nat.le_refl _) (lettersV_ne F L x) (lettersV_ne F L y)
    have hall : ∀ p ∈ prs (fstA (dd F L) (lettersV F L x).1 (lettersV F L y).1), ¬ (p.f0 = 0 ∧ p.f1 = 0) ∧ (p.f0 = 0 ∨ p.f0 ∈ L.map (·.f0)) ∧ (p.f1 = 0 ∨ p.f1 ∈ L.map (·.f0)) := fun p hp => by
      obtain ⟨q, hq, rfl⟩ := List.mem_map.1 hp
      have := f5 q hq
      exact ⟨this.1, this.2.1.imp id (mx _), this.2.2.imp id (my _)⟩
    have hlen : (prs (fstA (dd F L) (lettersV F L x).1 (lettersV F L y).1)).length ≤ 128 := by
      unfold prs
      rw [List.length_map]
      omega
    have hs2 : (sumV F L (prs (fstA (dd F L) (lettersV F L x).1 (lettersV F L y).1))).2 = 0 := by
      unfold sumV
      rw [if_pos hc, if_neg (by omega)]
      exact sumL_all hc _ 0 hall
    have hs1 := (sumV_ok hs2).2.2.1
    rw [prs_pq, f3] at hs1
    have hb : bothV F L (prs (fstA (dd F L) (lettersV F L x).1 (lettersV F L y).1)) = (x, y, 0) := by
      unfold bothV
      rw [if_pos hs2, prs_pq, f1, f2, rx, ry]
    obtain ⟨m1, m2, m3⟩ := many_in (F := F) (L := L) hx hy
    refine Ev.ifp rfl (Ev.bind (both_ev F L _) (Ev.bind (sum_ev F L _) (Ev.someb (fun _ => (rfl : align_Many.f F L x y 7 = some (manyV F L x y 7))) ?_)))
    rw [hb]
    refine Ev.ifp rfl (Ev.ifp hs2 (Ev.ifp m1 (Ev.ifp rfl (Ev.ifp rfl (Ev.ifp hs1 (Ev.ifn (by omega) ?_))))))
    rw [decide_eq_false (show ¬ (manyV F L x y 7).1 > 7 by omega)]
    exact alignLeast_j0 F L x y l hx hy
  · obtain ⟨a1, a2⟩ := words_bad hxy
    refine Ev.ifn a2 (Ev.ifp a1 (Ev.ret ?_))
    have : (wordsV F L x y).2.1 = [] := by
      unfold wordsV
      by_cases h1 : (lettersV F L x).2 = 0
      · rw [if_pos h1, if_neg (fun h2 => hxy ⟨h1, h2⟩)]
      · rw [if_neg h1]
    rw [this]
    rfl
end Go.Proofs.YtjnikjnkmcbjfabDoor.X
