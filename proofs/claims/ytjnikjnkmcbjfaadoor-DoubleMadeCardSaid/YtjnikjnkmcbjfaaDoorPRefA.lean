/- The plain law: the document's answer for letters of an alphabet, and what may be asked. No program in sight. -/
import Derived.Test.YtjnikjnkmcbjfaaDoorPSpec
import Derived.Test.YtjnikjnkmcbjfaaDoorPCheck
import Derived.Test.YtjnikjnkmcbjfaaDoorX8
namespace Go.Proofs.YtjnikjnkmcbjfaaDoor.X
open Go.RowKit Go.Proofs.YtjnikjnkmcbjfaaDoorW.PrintWords Go.Proofs.YtjnikjnkmcbjfaaDoorW.PrintLast Go.Proofs.YtjnikjnkmcbjfaaDoorW.PrintMore
theorem find_l0 (F : List ByteArray) (L : List S53) (r : Int) (hL : L.length ≤ 1000000) : ∀ (d i : Nat), L.length - i = d → i ≤ L.length → (∀ j : Nat, j < i → (rd_T53 L (j : Int)).f0 ≠ r) → Ev (fun k => cognateref02_Find.l0 k r (i : Int) F L) (idxR L r) := by
  intro d
  induction d with
  | zero =>
    intro i hd hi hn
    obtain rfl : i = L.length := by omega
    rw [idxR_none hn]
    exact Ev.step (fun k => by rw [cognateref02_Find.l0]) (Ev.ifn (by omega) (Ev.now _))
  | succ d ih =>
    intro i hd hi hn
    have hi2 : i < L.length := by omega
    have g1 : (i : Int) < (L.length : Int) := by omega
    have g2 : 0 ≤ (i : Int) := by omega
    have w1 : i ≤ 1000000000000 := by omega
    refine Ev.step (fun k => by rw [cognateref02_Find.l0]) (Ev.ifp g1 (Ev.ifp g2 ?_))
    by_cases e : (rd_T53 L (i : Int)).f0 = r
    · rw [idxR_some hi2 e hn]
      exact Ev.ifp e (Ev.now _)
    · refine Ev.ifn e ?_
      rw [w64s w1]
      refine ih (i + 1) (by omega) (by omega) (fun j hj => ?_)
      rcases Nat.lt_or_ge j i with h | h
      · exact hn j h
      · obtain rfl : j = i := by omega
        exact e
theorem find_ev (F : List ByteArray) (L : List S53) (r : Int) (hL : L.length ≤ 1000000) : Ev (fun k => cognateref02_Find.f k F L r) (idxR L r) :=
  find_l0 F L r hL L.length 0 (by omega) (by omega) (fun j hj => absurd hj (Nat.not_lt_zero _))
/-- What may be asked of letters. -/
def askedV (F : List ByteArray) (L : List S53) (l : List Int) : Int := if checkB F L = true then (if ∀ r ∈ l, 0 ≤ idxR L r then 0 else 5) else 7
theorem asked_l0 (F : List ByteArray) (L : List S53) (l : List Int) (hL : L.length ≤ 1000000) (hl : l.length ≤ 1000000) : ∀ (d i : Nat), l.length - i = d → i ≤ l.length → (∀ j : Nat, j < i → 0 ≤ idxR L (rd l (j : Int))) → Ev (fun k => cognateref02_asked.l0 k l (i : Int) F L) (if ∀ r ∈ l, 0 ≤ idxR L r then 0 else 5) := by
  intro d
  induction d with
  | zero =>
    intro i hd hi hn
    obtain rfl : i = l.length := by omega
    rw [if_pos (fun r hr => by obtain ⟨j, hj, rfl⟩ := List.getElem_of_mem hr; rw [← rdn l j hj]; exact hn j hj)]
    exact Ev.step (fun k => by rw [cognateref02_asked.l0]) (Ev.ifn (by omega) (Ev.now _))
  | succ d ih =>
    intro i hd hi hn
    have hi2 : i < l.length := by omega
    have g1 : (i : Int) < (l.length : Int) := by omega
    have g2 : 0 ≤ (i : Int) := by omega
    have w1 : i ≤ 1000000000000 := by omega
    refine Ev.step (fun k => by rw [cognateref02_asked.l0]) (Ev.ifp g1 (Ev.ifp g2 (Ev.bind (find_ev F L _ hL) ?_)))
    by_cases e : idxR L (rd l (i : Int)) < 0
    · rw [if_neg (fun h => by have := h (l[i]) (List.getElem_mem hi2); rw [rdn l i hi2] at e; omega)]
      exact Ev.ifp e (Ev.now _)
    · refine Ev.ifn e ?_
      rw [w64s w1]
      refine ih (i + 1) (by omega) (by omega) (fun j hj => ?_)
      rcases Nat.lt_or_ge j i with h | h
      · exact hn j h
      · obtain rfl : j = i := by omega
        omega
theorem asked_ev (F : List ByteArray) (L : List S53) (l : List Int) (hl : l.length ≤ 1000000) : Ev (fun k => cognateref02_asked.f k F L l) (askedV F L l) := by
  refine Ev.bind (check_ev F L) ?_
  unfold askedV
  rcases hc : checkB F L with _ | _
  · exact Ev.ifn (by decide) (Ev.now _)
  · refine Ev.ifp rfl ?_
    rw [if_pos rfl]
    have := (check_feats hc).2.2
    exact asked_l0 F L l (by omega) hl l.length 0 (by omega) (by omega) (fun j hj => absurd hj (Nat.not_lt_zero _))
theorem asked_nil (F : List ByteArray) (L : List S53) : askedV F L [] = if checkB F L = true then 0 else 7 := by
  unfold askedV
  simp
end Go.Proofs.YtjnikjnkmcbjfaaDoor.X
