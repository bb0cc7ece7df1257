/- The plain law: what align.Cost, Sum and Both tell. No program in sight. -/
import Derived.Test.YtjnikjnkmcbjfabDoorPDist
import Derived.Test.YtjnikjnkmcbjfabDoorPCodec
import Derived.Test.YtjnikjnkmcbjfabDoorX23
namespace Go.Proofs.YtjnikjnkmcbjfabDoor.X
open Go.RowKit Go.Proofs.YtjnikjnkmcbjfabDoorW.PrintWords Go.Proofs.YtjnikjnkmcbjfabDoorW.PrintLast Go.Proofs.YtjnikjnkmcbjfabDoorW.PrintMore
def pq (p : S44) : Int × Int := (p.f0, p.f1)
theorem farA_eq (F : List ByteArray) (L : List S91) (x y : Int) : align_far.f F L x y = some (prc (dd F L) (x, y)) := by
  unfold prc
  by_cases h : x = y
  · unfold align_far.f
    rw [if_pos h, if_pos h]
  · by_cases hx : x = 0
    · unfold align_far.f
      rw [if_neg h, if_pos hx, if_neg h, if_pos (Or.inl hx)]
    · by_cases hy : y = 0
      · unfold align_far.f
        rw [if_neg h, if_neg hx, if_pos hy, if_neg h, if_pos (Or.inr hy)]
      · rw [far3_eq F L x y hx hy, if_neg h, if_neg (by show ¬ (x = 0 ∨ y = 0); omega)]
theorem prc_in (F : List ByteArray) (L : List S91) (p : Int × Int) : 0 ≤ prc (dd F L) p ∧ prc (dd F L) p ≤ 34 := by
  have := dd_in F L p.1 p.2
  unfold prc
  split
  · omega
  · split <;> omega
def lerr (F : List ByteArray) (L : List S91) (x : Int) : Int := if x = 0 then 0 else (ofV F L x).2.2.2
theorem letter_eq (F : List ByteArray) (L : List S91) (x : Int) : align_letter.f F L x = some (lerr F L x) := by
  unfold align_letter.f lerr
  by_cases h : x = 0
  · rw [if_pos h, if_pos h]
  · rw [if_neg h, if_neg h, of_eq, Option.bind_some]
/-- What align.Cost tells. -/
def costV (F : List ByteArray) (L : List S91) (x y : Int) : Int × Int :=
  if checkB F L = true then (if lerr F L x = 0 then (if lerr F L y = 0 then (if x = 0 ∧ y = 0 then (0, 2) else (prc (dd F L) (x, y), 0)) else (0, lerr F L y)) else (0, lerr F L x)) else (0, 7)
theorem cost_eq (F : List ByteArray) (L : List S91) (x y : Int) : align_Cost.f F L x y = some (costV F L x y) := by
  unfold align_Cost.f costV feature_Check.f
  rw [Option.bind_some]
  rcases hc : checkB F L with _ | _
  · rfl
  · rw [if_pos (show (if true = true then (0 : Int) else 7) = 0 from rfl), if_pos (show true = true from rfl), letter_eq, Option.bind_some]
    by_cases h1 : lerr F L x = 0
    · rw [if_pos h1, if_pos h1, letter_eq, Option.bind_some]
      by_cases h2 : lerr F L y = 0
      · rw [if_pos h2, if_pos h2]
        by_cases h3 : x = 0
        · by_cases h4 : y = 0
          · rw [if_pos h3, if_pos h4, if_pos ⟨h3, h4⟩]
          · rw [if_pos h3, if_neg h4, if_neg (fun h => h4 h.2), farA_eq, Option.bind_some]
        · rw [if_neg h3, if_neg (fun h => h3 h.1), farA_eq, Option.bind_some]
      · rw [if_neg h2, if_neg h2]
    · rw [if_neg h1, if_neg h1]
theorem costV_in (F : List ByteArray) (L : List S91) (x y : Int) : 0 ≤ (costV F L x y).1 ∧ (costV F L x y).1 ≤ 34 := by
  have := prc_in F L (x, y)
  unfold costV
  split
  · split
    · split
      · split
        · exact ⟨Int.le_refl _, by show (0 : Int) ≤ 34; omega⟩
        · exact this
      · exact ⟨Int.le_refl _, by show (0 : Int) ≤ 34; omega⟩
    · exact ⟨Int.le_refl _, by show (0 : Int) ≤ 34; omega⟩
  · exact ⟨Int.le_refl _, by show (0 : Int) ≤ 34; omega⟩
def sumL (F : List ByteArray) (L : List S91) : List S44 → Int → Int × Int
  | [], n => (n, 0)
  | p :: ps, n => if (costV F L p.f0 p.f1).2 = 0 then sumL F L ps (n + (costV F L p.f0 p.f1).1) else (0, (costV F L p.f0 p.f1).2)
/-- What align.Sum tells. -/
def sumV (F : List ByteArray) (L : List S91) (l : List S44) : Int × Int :=
  if checkB F L = true then (if 256 < l.length then (0, 4) else sumL F L l 0) else (0, 7)
theorem rdP (l : List S44) (i : Nat) (h : i < l.length) : rd_T44 l (i : Int) = l[i] := by simp [rd_T44, h]
theorem sum_l0 (F : List ByteArray) (L : List S91) (l : List S44) (hl : l.length ≤ 256) : ∀ (d i : Nat) (n : Int), l.length - i = d → i ≤ l.length → 0 ≤ n → n ≤ 34 * (i : Int) → Ev (fun k => align_Sum.l0 k n l (l.length : Int) (i : Int) F L) (sumL F L (l.drop i) n) := by
  intro d
  induction d with
  | zero =>
    intro i n hd hi h0 h1
    obtain rfl : i = l.length := by omega
    refine Ev.step (fun k => by rw [align_Sum.l0]) (Ev.ifn (by omega) (Ev.ret ?_))
    rw [List.drop_length]
    rfl
  | succ d ih =>
    intro i n hd hi h0 h1
    have hi2 : i < l.length := by omega
    refine Ev.step (fun k => by rw [align_Sum.l0]) (Ev.ifp (by omega) (Ev.ifp (by omega) (Ev.ifp (by omega) (Ev.someb (fun _ => cost_eq _ _ _ _) ?_))))
    have hb := costV_in F L l[i].f0 l[i].f1
    rw [rdP l i hi2, List.drop_eq_getElem_cons hi2, sumL, w64s (by omega), w64 (by omega)]
    by_cases h : (costV F L l[i].f0 l[i].f1).2 = 0
    · rw [if_pos h]
      exact Ev.ifp h (ih (i + 1) _ (by omega) (by omega) (by omega) (by omega))
    · rw [if_neg h]
      exact Ev.ifn h (Ev.now _)
theorem sum_ev (F : List ByteArray) (L : List S91) (l : List S44) : Ev (fun k => align_Sum.f k F L l) (sumV F L l) := by
  unfold sumV
  refine Ev.someb (fun _ => rfl) ?_
  rcases hc : checkB F L with _ | _
  · exact Ev.ifn (by decide) (Ev.now _)
  · refine Ev.ifp rfl ?_
    rw [if_pos rfl]
    by_cases h : 256 < l.length
    · rw [if_pos h]
      exact Ev.ifp (by omega) (Ev.now _)
    · rw [if_neg h]
      refine Ev.ifn (by omega) ?_
      exact sum_l0 F L l (by omega) l.length 0 0 rfl (by omega) (by omega) (by omega)
theorem cost_ok {F : List ByteArray} {L : List S91} {x y : Int} (h : (costV F L x y).2 = 0) : ¬ (x = 0 ∧ y = 0) ∧ (x = 0 ∨ x ∈ L.map (·.f0)) ∧ (y = 0 ∨ y ∈ L.map (·.f0)) ∧ (costV F L x y).1 = prc (dd F L) (x, y) := by
  have key : ∀ z : Int, lerr F L z = 0 → z = 0 ∨ z ∈ L.map (·.f0) := fun z hz => by
    unfold lerr at hz
    by_cases h0 : z = 0
    · exact Or.inl h0
    · rw [if_neg h0] at hz
      rcases of_cases F L z with ⟨_, e⟩ | ⟨_, _, e⟩ | ⟨_, i, hi, er, _⟩
      · rw [e] at hz; simp at hz
      · rw [e] at hz; simp at hz
      · exact Or.inr ((mem_runes L z).2 ⟨i, hi, er⟩)
  unfold costV at h ⊢
  by_cases hc : checkB F L = true
  · rw [if_pos hc] at h ⊢
    by_cases h1 : lerr F L x = 0
    · rw [if_pos h1] at h ⊢
      by_cases h2 : lerr F L y = 0
      · rw [if_pos h2] at h ⊢
        by_cases h3 : x = 0 ∧ y = 0
        · rw [if_pos h3] at h
          simp at h
        · rw [if_neg h3]
          exact ⟨h3, key x h1, key y h2, rfl⟩
      · rw [if_neg h2] at h
        exact absurd h h2
    · rw [if_neg h1] at h
      exact absurd h h1
  · rw [if_neg hc] at h
    simp at h
theorem sumL_ok {F : List ByteArray} {L : List S91} : ∀ (l : List S44) (n : Int), (sumL F L l n).2 = 0 → (sumL F L l n).1 = n + sumA (dd F L) (l.map pq) ∧ ∀ p ∈ l, ¬ (p.f0 = 0 ∧ p.f1 = 0) ∧ (p.f0 = 0 ∨ p.f0 ∈ L.map (·.f0)) ∧ (p.f1 = 0 ∨ p.f1 ∈ L.map (·.f0))
  | [], n, _ => by simp [sumL, sumA]
  | p :: ps, n, h => by
    unfold sumL at h ⊢
    by_cases hc : (costV F L p.f0 p.f1).2 = 0
    · rw [if_pos hc] at h ⊢
      obtain ⟨c1, c2, c3, c4⟩ := cost_ok hc
      obtain ⟨h1, h2⟩ := sumL_ok ps _ h
      refine ⟨?_, fun q hq => ?_⟩
      · rw [h1, c4, List.map_cons, sumA_cons]
        show n + prc (dd F L) (p.f0, p.f1) + _ = n + (prc (dd F L) (p.f0, p.f1) + _)
        omega
      · rcases List.mem_cons.1 hq with rfl | hq
        · exact ⟨c1, c2, c3⟩
        · exact h2 q hq
    · rw [if_neg hc] at h
      exact absurd h hc
theorem sumL_all {F : List ByteArray} {L : List S91} (hc : checkB F L = true) : ∀ (l : List S44) (n : Int), (∀ p ∈ l, ¬ (p.f0 = 0 ∧ p.f1 = 0) ∧ (p.f0 = 0 ∨ p.f0 ∈ L.map (·.f0)) ∧ (p.f1 = 0 ∨ p.f1 ∈ L.map (·.f0))) → (sumL F L l n).2 = 0
  | [], n, _ => rfl
  | p :: ps, n, h => by
    have hp := h p (List.mem_cons_self ..)
    have key : ∀ z : Int, z = 0 ∨ z ∈ L.map (·.f0) → lerr F L z = 0 := fun z hz => by
      unfold lerr
      by_cases h0 : z = 0
      · rw [if_pos h0]
      · rw [if_neg h0]
        exact ofV_in hc (hz.resolve_left h0)
    have h1 : (costV F L p.f0 p.f1).2 = 0 := by
      unfold costV
      rw [if_pos hc, if_pos (key _ hp.2.1), if_pos (key _ hp.2.2), if_neg hp.1]
    unfold sumL
    rw [if_pos h1]
    exact sumL_all hc ps _ (fun q hq => h q (List.mem_cons_of_mem _ hq))
/-- What align.Both tells. -/
def bothV (F : List ByteArray) (L : List S91) (l : List S44) : ByteArray × ByteArray × Int :=
  if (sumV F L l).2 = 0 then (runesBytes (lefts (l.map pq)), runesBytes (rights (l.map pq)), 0) else ((⟨#[]⟩ : ByteArray), (⟨#[]⟩ : ByteArray), (sumV F L l).2)
theorem lefts_le (l : List (Int × Int)) : (lefts l).length ≤ l.length := by
  unfold lefts
  exact Nat.le_trans (List.length_filter_le _ _) (by rw [List.length_map]; exact Nat.le_refl _)
theorem rights_le (l : List (Int × Int)) : (rights l).length ≤ l.length := by
  unfold rights
  exact Nat.le_trans (List.length_filter_le _ _) (by rw [List.length_map]; exact Nat.le_refl _)
theorem both_l0 (l : List S44) (hl : l.length ≤ 256) : ∀ (d i : Nat) (a b : List Int), l.length - i = d → i ≤ l.length → a.length ≤ i → b.length ≤ i → Ev (fun k => align_Both.l0 k a b l (l.length : Int) (i : Int)) (runesBytes (a ++ lefts ((l.drop i).map pq)), runesBytes (b ++ rights ((l.drop i).map pq)), 0) := by
  intro d
  induction d with
  | zero =>
    intro i a b hd hi ha hb
    obtain rfl : i = l.length := by omega
    refine Ev.step (fun k => by rw [align_Both.l0]) (Ev.ifn (by omega) (Ev.ret ?_))
    rw [List.drop_length]
    simp [lefts, rights]
  | succ d ih =>
    intro i a b hd hi ha hb
    have hi2 : i < l.length := by omega
    refine Ev.step (fun k => by rw [align_Both.l0]) (Ev.ifp (by omega) (Ev.ifp (by omega) (Ev.ifp (by omega) ?_)))
    rw [rdP l i hi2, List.drop_eq_getElem_cons hi2, List.map_cons, lefts_cons, rights_cons, w64s (by omega)]
    show Ev (fun n => if l[i].f0 = 0 then _ else _) (runesBytes (a ++ (if l[i].f0 = 0 then _ else l[i].f0 :: _)), runesBytes (b ++ (if l[i].f1 = 0 then _ else l[i].f1 :: _)), 0)
    by_cases h0 : l[i].f0 = 0
    · rw [if_pos h0]
      refine Ev.ifp h0 ?_
      by_cases h1 : l[i].f1 = 0
      · rw [if_pos h1]
        exact Ev.ifp h1 (ih (i + 1) a b (by omega) (by omega) (by omega) (by omega))
      · rw [if_neg h1]
        refine Ev.ifn h1 (Ev.ifp (by omega) ?_)
        have := ih (i + 1) a (b ++ [l[i].f1]) (by omega) (by omega) (by omega) (by rw [List.length_append]; simp only [List.length_cons, List.length_nil]; omega)
        rw [List.append_assoc] at this
        exact this
    · rw [if_neg h0]
      refine Ev.ifn h0 (Ev.ifp (by omega) (Ev.someb (fun _ => rfl) ?_))
      by_cases h1 : l[i].f1 = 0
      · rw [if_pos h1]
        refine Ev.ifp h1 ?_
        have := ih (i + 1) (a ++ [l[i].f0]) b (by omega) (by omega) (by rw [List.length_append]; simp only [List.length_cons, List.length_nil]; omega) (by omega)
        rw [List.append_assoc] at this
        exact this
      · rw [if_neg h1]
        refine Ev.ifn h1 (Ev.ifp (by omega) ?_)
        have := ih (i + 1) (a ++ [l[i].f0]) (b ++ [l[i].f1]) (by omega) (by omega) (by rw [List.length_append]; simp only [List.length_cons, List.length_nil]; omega) (by rw [List.length_append]; simp only [List.length_cons, List.length_nil]; omega)
        rw [List.append_assoc, List.append_assoc] at this
        exact this
theorem sumV_ok {F : List ByteArray} {L : List S91} {l : List S44} (h : (sumV F L l).2 = 0) : checkB F L = true ∧ l.length ≤ 256 ∧ (sumV F L l).1 = sumA (dd F L) (l.map pq) ∧ ∀ p ∈ l, ¬ (p.f0 = 0 ∧ p.f1 = 0) ∧ (p.f0 = 0 ∨ p.f0 ∈ L.map (·.f0)) ∧ (p.f1 = 0 ∨ p.f1 ∈ L.map (·.f0)) := by
  unfold sumV at h ⊢
  by_cases hc : checkB F L = true
  · rw [if_pos hc] at h ⊢
    by_cases hl : 256 < l.length
    · rw [if_pos hl] at h
      simp at h
    · rw [if_neg hl] at h ⊢
      obtain ⟨h1, h2⟩ := sumL_ok l 0 h
      exact ⟨hc, by omega, by rw [h1]; omega, h2⟩
  · rw [if_neg hc] at h
    simp at h
theorem both_ev (F : List ByteArray) (L : List S91) (l : List S44) : Ev (fun k => align_Both.f k F L l) (bothV F L l) := by
  unfold bothV
  refine Ev.bind (sum_ev F L l) ?_
  by_cases h : (sumV F L l).2 = 0
  · rw [if_pos h]
    have := both_l0 l (sumV_ok h).2.1 l.length 0 [] [] rfl (by omega) (by simp) (by simp)
    exact Ev.ifp h this
  · rw [if_neg h]
    exact Ev.ifn h (Ev.now _)
end Go.Proofs.YtjnikjnkmcbjfabDoor.X
