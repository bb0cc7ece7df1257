/- The plain law of DoubleSquares: runs are squares; a word goes on by its period, and by no lesser number. -/
import Derived.Test.YtjnikjnkmcbjfaaDoorPFront
import Derived.Test.YtjnikjnkmcbjfaaDoorGPart
import Derived.Test.YtjnikjnkmcbjfaaDoorX27
namespace Go.Proofs.YtjnikjnkmcbjfaaDoor.X
open Go.RowKit Go.Proofs.YtjnikjnkmcbjfaaDoorW.PrintWords Go.Proofs.YtjnikjnkmcbjfaaDoorW.PrintLast Go.Proofs.YtjnikjnkmcbjfaaDoorW.PrintMore
/-- A run: a square in the row. -/
def Good (l : List Int) (x : S35) : Prop := ∃ a h : Nat, x = ⟨(a : Int), ((a + 2 * h : Nat) : Int)⟩ ∧ 1 ≤ h ∧ a + 2 * h ≤ l.length ∧ halfB (seg l a h) = true
theorem best_le (l : List Int) (i : Nat) : ∀ h, best l i h ≤ h
  | 0 => Nat.le_refl _
  | h + 1 => by
    simp only [best]
    split
    · exact Nat.le_refl _
    · have := best_le l i h; omega
theorem best_half (l : List Int) (i : Nat) : ∀ h, best l i h ≠ 0 → halfB (seg l i (best l i h)) = true
  | 0, hn => absurd rfl hn
  | h + 1, hn => by
    by_cases hb : halfB (seg l i (h + 1)) = true
    · have : best l i (h + 1) = h + 1 := by simp only [best, hb]; rfl
      rw [this]
      exact hb
    · have : best l i (h + 1) = best l i h := by simp only [best, hb]; rfl
      rw [this] at hn ⊢
      exact best_half l i h hn
theorem runsV_good (l : List Int) : ∀ (d i : Nat) (acc : List S35), i + d = l.length → (∀ x ∈ acc, Good l x ∧ x.f0 < (i : Int)) → acc.Pairwise (fun x y => x.f0 < y.f0) → (∀ x ∈ runsV l d i acc, Good l x) ∧ (runsV l d i acc).Pairwise (fun x y => x.f0 < y.f0)
  | 0, i, acc, _, h1, h2 => ⟨fun x hx => (h1 x hx).1, h2⟩
  | d + 1, i, acc, hd, h1, h2 => by
    simp only [runsV]
    refine runsV_good l d (i + 1) _ (by omega) (fun x hx => ?_) ?_
    · unfold push at hx
      split at hx
      · have := h1 x hx
        exact ⟨this.1, by have := this.2; omega⟩
      · rename_i hn
        rcases List.mem_append.1 hx with hx | hx
        · have := h1 x hx
          exact ⟨this.1, by have := this.2; omega⟩
        · rw [List.mem_singleton.1 hx]
          have hle := best_le l i ((l.length - i) / 2)
          exact ⟨⟨i, best l i ((l.length - i) / 2), rfl, by omega, by omega, best_half l i _ hn⟩, by show (i : Int) < _; omega⟩
    · unfold push
      split
      · exact h2
      · rw [List.pairwise_append]
        refine ⟨h2, List.pairwise_singleton _ _, fun x hx y hy => ?_⟩
        rw [List.mem_singleton.1 hy]
        exact (h1 x hx).2
theorem runs_good (l : List Int) : (∀ x ∈ runsV l l.length 0 [], Good l x) ∧ (runsV l l.length 0 []).Pairwise (fun x y => x.f0 < y.f0) :=
  runsV_good l l.length 0 [] (by omega) (by simp) List.Pairwise.nil
theorem perV_spec (l : List Int) : ∀ (d p : Nat), p + d = l.length → p ≤ perV l d p ∧ perV l d p ≤ l.length ∧ perB l (perV l d p) = true ∧ ∀ q, p ≤ q → q < perV l d p → perB l q = false
  | 0, p, h => by
    simp only [perV]
    refine ⟨Nat.le_refl _, by omega, ?_, fun q h1 h2 => by omega⟩
    rw [perB_iff l p (by omega)]
    intro q h1 h2
    omega
  | d + 1, p, h => by
    rcases hb : perB l p with _ | _
    · have e : perV l (d + 1) p = perV l d (p + 1) := by simp only [perV, hb]; rfl
      rw [e]
      obtain ⟨a1, a2, a3, a4⟩ := perV_spec l d (p + 1) (by omega)
      refine ⟨by omega, a2, a3, fun q h1 h2 => ?_⟩
      rcases Nat.eq_or_lt_of_le h1 with rfl | h3
      · exact hb
      · exact a4 q h3 h2
    · have e : perV l (d + 1) p = p := by simp only [perV, hb]; rfl
      rw [e]
      exact ⟨Nat.le_refl _, by omega, hb, fun q h1 h2 => by omega⟩
theorem period_spec (l : List Int) (h0 : l.length ≠ 0) : 1 ≤ periodV l ∧ periodV l ≤ l.length ∧ perB l (periodV l) = true ∧ ∀ q, 1 ≤ q → q < periodV l → perB l q = false := by
  unfold periodV
  rw [if_neg h0]
  exact perV_spec l (l.length - 1) 1 (by omega)
theorem squares_l2 (l : List Int) (hl : l.length ≤ 64) (p q : Nat) (hq : 1 ≤ q) (_ : q ≤ p) (_ : p ≤ l.length) (hok : perB l q = (((q : Int) == (p : Int)) : Bool)) (hc : Ev (fun k => cognatelaw15_DoubleSquares.l1 k l (p : Int) ((q + 1 : Nat) : Int)) true) :
    ∀ (d j : Nat) (ok : Bool), l.length - j = d → j ≤ l.length → q ≤ j → (ok = true ↔ ∀ i : Nat, q ≤ i → i < j → rd l (i : Int) = rd l ((i - q : Nat) : Int)) → Ev (fun k => cognatelaw15_DoubleSquares.l2 k l (p : Int) (q : Int) ok (j : Int)) true := by
  intro d
  induction d with
  | zero =>
    intro j ok hd hj hpj ho
    obtain rfl : j = l.length := by omega
    rw [← perB_iff l q (by omega)] at ho
    have e : ok = perB l q := by
      cases ok with
      | true => exact (ho.1 rfl).symm
      | false =>
        rcases hb : perB l q with _ | _
        · rfl
        · exact ho.2 hb
    refine Ev.step (fun k => by rw [cognatelaw15_DoubleSquares.l2]) (Ev.ifn (by omega) (Ev.ifn ?_ ?_))
    · rw [e, hok]
      simp
    · rw [w64s (by omega)]
      exact hc
  | succ d ih =>
    intro j ok hd hj hpj ho
    refine Ev.step (fun k => by rw [cognatelaw15_DoubleSquares.l2]) (Ev.ifp (by omega) ?_)
    have e : wrap64 ((j : Int) - (q : Int)) = ((j - q : Nat) : Int) := by rw [w64 (by omega)]; omega
    cases ok with
    | true =>
      refine Ev.ifp rfl (Ev.ifp (by omega) ?_)
      rw [e]
      refine Ev.ifp (by omega) (Ev.ifp (by omega) ?_)
      rw [w64s (by omega)]
      refine ih (j + 1) _ (by omega) (by omega) (by omega) ?_
      rw [beq_iff_eq]
      constructor
      · intro h i h1 h2
        rcases Nat.lt_or_ge i j with h3 | h3
        · exact ho.1 rfl i h1 h3
        · obtain rfl : i = j := by omega
          exact h
      · intro h
        exact h j hpj (by omega)
    | false =>
      refine Ev.ifn (by decide) ?_
      rw [w64s (by omega)]
      refine ih (j + 1) false (by omega) (by omega) (by omega) ?_
      constructor
      · intro h; cases h
      · intro h
        exact ho.2 (fun i h1 h2 => h i h1 (by omega))
theorem squares_l1 (l : List Int) (hl : l.length ≤ 64) (h0 : l.length ≠ 0) : ∀ (d q : Nat), periodV l + 1 - q = d → q ≤ periodV l + 1 → 1 ≤ q → Ev (fun k => cognatelaw15_DoubleSquares.l1 k l ((periodV l : Nat) : Int) (q : Int)) true := by
  obtain ⟨p1, p2, p3, p4⟩ := period_spec l h0
  intro d
  induction d with
  | zero =>
    intro q hd hq h1
    exact Ev.step (fun k => by rw [cognatelaw15_DoubleSquares.l1]) (Ev.ifn (by omega) (Ev.now _))
  | succ d ih =>
    intro q hd hq h1
    refine Ev.step (fun k => by rw [cognatelaw15_DoubleSquares.l1]) (Ev.ifp (by omega) ?_)
    refine squares_l2 l hl _ q h1 (by omega) p2 ?_ (ih (q + 1) (by omega) (by omega) (by omega)) _ q true rfl (by omega) (Nat.le_refl _) ⟨fun _ i a b => by omega, fun _ => rfl⟩
    rcases Nat.lt_or_ge q (periodV l) with h | h
    · rw [p4 q h1 h]
      exact (beq_eq_false_iff_ne.2 (by omega)).symm
    · obtain rfl : q = periodV l := by omega
      rw [p3]
      simp
theorem per_half (x : List Int) (hx : x.length ≠ 0) : periodV (x ++ x) ≤ x.length := by
  have hl : (x ++ x).length = x.length + x.length := List.length_append
  obtain ⟨p1, p2, p3, p4⟩ := period_spec (x ++ x) (by omega)
  rcases Nat.lt_or_ge x.length (periodV (x ++ x)) with h | h
  · have := p4 x.length (by omega) h
    have h2 : perB (x ++ x) x.length = true := by
      unfold perB
      rw [hl, show x.length + x.length - x.length = x.length by omega, List.drop_left, List.take_left]
      simp
    rw [h2] at this
    cases this
  · exact h
theorem squares_l0 (F : List ByteArray) (L : List S53) (w : ByteArray) (l : List Int) (hl : l.length ≤ 64) (hlet : ∀ x ∈ l, letterB x = true) (hbk : ∀ m : List Int, (∀ y ∈ m, y ∈ l) → m.length ≤ 64 → lettersV F L (runesBytes m) = (m, 0)) (hpt : ∀ a h : Nat, a + 2 * h ≤ l.length → word_Part.f F L w (a : Int) ((a + 2 * h : Nat) : Int) = some (runesBytes (seg l a h), 0)) (P : Nat) (R : List S35) (hRl : R.length ≤ 64) (hg1 : ∀ x ∈ R, Good l x) (hg2 : R.Pairwise (fun x y => x.f0 < y.f0)) (hfin : Ev (fun k => cognatelaw15_DoubleSquares.l1 k l (P : Int) 1) true) :
    ∀ (d i : Nat) (at_ : Int), R.length - i = d → i ≤ R.length → (∀ j, i ≤ j → j < R.length → at_ < (rd_T35 R (j : Int)).f0) → Ev (fun k => cognatelaw15_DoubleSquares.l0 k w l R (P : Int) at_ (i : Int) F L) true := by
  intro d
  induction d with
  | zero =>
    intro i at_ hd hi hat
    exact Ev.step (fun k => by rw [cognatelaw15_DoubleSquares.l0]) (Ev.ifn (by omega) hfin)
  | succ d ih =>
    intro i at_ hd hi hat
    have hlt : i < R.length := by omega
    have hrd : rd_T35 R (i : Int) = R[i] := by simp [rd_T35, hlt]
    have hgood : Good l R[i] := hg1 _ (List.getElem_mem hlt)
    obtain ⟨a, h, hx, h1, hle, hhalf⟩ := hgood
    have hat2 := hat i (Nat.le_refl _) hlt
    refine Ev.step (fun k => by rw [cognatelaw15_DoubleSquares.l0]) (Ev.ifp (by omega) (Ev.ifp (by omega) ?_))
    have f0 : (rd_T35 R (i : Int)).f0 = (a : Int) := by rw [hrd, hx]
    have f1 : (rd_T35 R (i : Int)).f1 = ((a + 2 * h : Nat) : Int) := by rw [hrd, hx]
    rw [f0] at hat2
    rw [f0, f1]
    clear f0 f1
    have c1 : ¬ (a : Int) ≤ at_ := by omega
    have c2 : ¬ ((a + 2 * h : Nat) : Int) > (l.length : Int) := by omega
    have c3 : ¬ ((2 * h : Nat) : Int) < 2 := by omega
    have hwr : wrap64 (((a + 2 * h : Nat) : Int) - (a : Int)) = ((2 * h : Nat) : Int) := by rw [w64 (by omega)]; omega
    have htm : Int.tmod ((2 * h : Nat) : Int) 2 = 0 := by rw [Int.tmod_eq_emod_of_nonneg (by omega)]; omega
    have htd : wrap64 (Int.tdiv ((2 * h : Nat) : Int) 2) = (h : Int) := by rw [Int.tdiv_eq_ediv_of_nonneg (by omega), w64 (by omega)]; omega
    rw [hwr]
    refine Ev.ifn c1 (Ev.ifn c2 (Ev.ifn c3 ?_))
    rw [htm]
    refine Ev.step (fun k => by rw [cognatelaw15_DoubleSquares.j2]) (Ev.ifn (by decide) ?_)
    rw [htd]
    clear hwr htm htd
    -- the part
    have hpart := hpt a h hle
    have hslen := seg_len l a h hle
    have hsm : ∀ y ∈ seg l a h, y ∈ l := fun y hy => List.mem_of_mem_take (List.mem_of_mem_drop hy)
    obtain ⟨x, hxx⟩ := (halfB_iff _).1 hhalf
    have hback := hbk (seg l a h) hsm (by omega)
    rw [hxx] at hpart hback hslen
    have hxl : x.length = h := by rw [List.length_append] at hslen; omega
    have hper : periodOf F L (runesBytes (x ++ x)) = (((periodV (x ++ x) : Nat) : Int), 0) := by
      unfold periodOf
      rw [hback, if_pos rfl]
    have hcut : cutV (x ++ x) 0 = h := by unfold cutV; rw [if_pos rfl, List.length_append]; omega
    have hs : singleV F L (runesBytes (x ++ x)) 0 = (runesBytes x, true, 0) := by
      unfold singleV
      rw [hback, if_pos rfl, if_neg (by omega), single_yes hcut (by
        rw [List.take_of_length_le (by rw [List.length_append]; omega), (halfB_iff (x ++ x)).2 ⟨x, rfl⟩, List.length_append]
        rintro (h | h | ⟨_, h⟩ | h) <;> first | omega | cases h), ← hxl, List.drop_left]
    have hph := per_half x (by omega)
    have hsz : (runesBytes x).size ≤ 256 := by
      rw [runes_size]
      have := bytesR_len x (fun y hy => hlet y (hsm y (by rw [hxx]; simp [hy])))
      omega
    refine Ev.someb (fun _ => hpart) (Ev.bind (period_ev F L _) (Ev.bind (single_ev F L _ 0) ?_))
    rw [hper, hs]
    refine Ev.ifp rfl (Ev.ifp rfl (Ev.ifn (by simp only; omega) (Ev.ifp rfl (Ev.ifp rfl (Ev.ifp (by simp only; omega) ?_)))))
    refine Ev.step (fun k => by rw [cognatelaw15_DoubleSquares.j3]) (Ev.ifn (by rw [runes_append]; simp) ?_)
    rw [w64s (by omega)]
    refine ih (i + 1) (a : Int) (by omega) (by omega) (fun j hj hj2 => ?_)
    have hp := List.pairwise_iff_getElem.1 hg2 i j hlt hj2 (by omega)
    rw [hx] at hp
    have hrj : rd_T35 R (j : Int) = R[j] := by simp [rd_T35, hj2]
    rw [hrj]
    exact hp
theorem doubleSquares_law (F : List ByteArray) (L : List S53) (w : ByteArray) : ∃ k, cognatelaw15_DoubleSquares.f k F L w = some true := by
  refine Ev.rounds (Ev.bind awake_ev (Ev.ifp rfl (Ev.someb (fun _ => letters_eq F L w) (Ev.bind (runs_ev F L w) (Ev.bind (period_ev F L w) ?_)))))
  have hl := lettersV_len F L w
  by_cases he : (lettersV F L w).2 = 0
  · have hr : runsOf F L w = (runsV (lettersV F L w).1 (lettersV F L w).1.length 0 [], 0) := by unfold runsOf; rw [if_pos he]
    have hp : periodOf F L w = (((periodV (lettersV F L w).1 : Nat) : Int), 0) := by unfold periodOf; rw [if_pos he]
    rw [hr, hp]
    have hple : periodV (lettersV F L w).1 ≤ (lettersV F L w).1.length := by
      by_cases h0 : (lettersV F L w).1.length = 0
      · unfold periodV
        rw [if_pos h0]
        omega
      · exact (period_spec _ h0).2.1
    have hfin : Ev (fun k => cognatelaw15_DoubleSquares.l1 k (lettersV F L w).1 ((periodV (lettersV F L w).1 : Nat) : Int) 1) true := by
      by_cases h0 : (lettersV F L w).1.length = 0
      · have e : periodV (lettersV F L w).1 = 0 := by unfold periodV; rw [if_pos h0]
        rw [e]
        exact Ev.step (fun k => by rw [cognatelaw15_DoubleSquares.l1]) (Ev.ifn (by decide) (Ev.now _))
      · exact squares_l1 _ hl h0 _ 1 rfl (by omega) (Nat.le_refl _)
    have hz : (((periodV (lettersV F L w).1 : Nat) : Int) == 0) = (((lettersV F L w).1.length : Int) == 0) := by
      by_cases h0 : (lettersV F L w).1.length = 0
      · have e : periodV (lettersV F L w).1 = 0 := by unfold periodV; rw [if_pos h0]
        rw [e, h0]
      · have := (period_spec _ h0).1
        rw [beq_eq_false_iff_ne.2 (by omega), beq_eq_false_iff_ne.2 (by omega)]
    refine Ev.ifp he (Ev.ifp rfl (Ev.ifp rfl (Ev.ifn (by simp only; omega) (Ev.ifn (by simp only; omega) ?_))))
    simp only
    rw [hz]
    refine Ev.step (fun k => by rw [cognatelaw15_DoubleSquares.j0]) (Ev.ifn (by simp) ?_)
    obtain ⟨hck, _, hw, hmem⟩ := letters_ok he
    have hRl : (runsV (lettersV F L w).1 (lettersV F L w).1.length 0 []).length ≤ 64 := by
      have := runsV_len (lettersV F L w).1 (lettersV F L w).1.length 0 [] (by simp)
      omega
    refine squares_l0 F L w (lettersV F L w).1 hl (lettersV_letter F L w) (fun m h1 h2 => letters_back hck m (fun y hy => hmem y (h1 y hy)) h2) (fun a h hle => ?_) _ _ hRl (runs_good _).1 (runs_good _).2 hfin _ 0 (-1) rfl (Nat.zero_le _) (fun j _ hj => ?_)
    · unfold word_Part.f
      rw [letters_eq, Option.bind_some, if_pos he, if_pos ⟨by omega, by omega, by omega⟩, Int.toNat_natCast, Int.toNat_natCast]
      rfl
    obtain ⟨a, h, hx, _⟩ := (runs_good (lettersV F L w).1).1 _ (List.getElem_mem hj)
    have hrj : rd_T35 (runsV (lettersV F L w).1 (lettersV F L w).1.length 0 []) (j : Int) = (runsV (lettersV F L w).1 (lettersV F L w).1.length 0 [])[j] := by simp [rd_T35, hj]
    rw [hrj, hx]
    show (-1 : Int) < (a : Int)
    omega
  · have hr : (runsOf F L w).2 = (lettersV F L w).2 := by unfold runsOf; rw [if_neg he]
    have hp : (periodOf F L w).2 = (lettersV F L w).2 := by unfold periodOf; rw [if_neg he]
    refine Ev.ifn he (Ev.ifp hr (Ev.ret ?_))
    rw [hp]
    simp
end Go.Proofs.YtjnikjnkmcbjfaaDoor.X
