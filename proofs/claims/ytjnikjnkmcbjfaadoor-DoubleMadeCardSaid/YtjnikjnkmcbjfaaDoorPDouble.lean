/- The plain law: what stands twice in a word, and its period: the document's loops come to the same. No program in sight. -/
import Derived.Test.YtjnikjnkmcbjfaaDoorPRun
import Derived.Test.YtjnikjnkmcbjfaaDoorPLetters
import Derived.Test.YtjnikjnkmcbjfaaDoorX24
import Derived.Test.YtjnikjnkmcbjfaaDoorX9
import Derived.Test.YtjnikjnkmcbjfaaDoorX12
namespace Go.Proofs.YtjnikjnkmcbjfaaDoor.X
open Go.RowKit Go.Proofs.YtjnikjnkmcbjfaaDoorW.PrintWords Go.Proofs.YtjnikjnkmcbjfaaDoorW.PrintLast Go.Proofs.YtjnikjnkmcbjfaaDoorW.PrintMore
theorem square_eq (m : List Int) (h : m.length ≤ 1000000) (hm : ∀ x ∈ m, letterB x = true) : cognateref15_square.f m = some (halfB m) := by
  unfold cognateref15_square.f halfB
  rw [half_w m h]
  by_cases e : m.length % 2 = 0
  · rw [if_pos (by omega), if_pos (by omega), if_pos (by omega), Int.toNat_natCast, decide_eq_true e, Bool.true_and, runes_eq _ _ (fun x hx => hm x (List.mem_of_mem_take hx)) (fun x hx => hm x (List.mem_of_mem_drop hx))]
  · rw [if_neg (by omega), decide_eq_false e, Bool.false_and]
/-- What the document's loop keeps: where the longest square ends; 0: there is none. -/
def toOf (l : List Int) (i h : Nat) : Nat := if best l i h = 0 then 0 else i + 2 * best l i h
theorem toOf_no {l : List Int} {i h : Nat} (hb : halfB (seg l i (h + 1)) = false) : toOf l i (h + 1) = toOf l i h := by
  have : best l i (h + 1) = best l i h := by simp only [best, hb]; rfl
  unfold toOf
  rw [this]
theorem toOf_yes {l : List Int} {i h : Nat} (hb : halfB (seg l i (h + 1)) = true) : toOf l i (h + 1) = i + 2 * (h + 1) := by
  have : best l i (h + 1) = h + 1 := by simp only [best, hb]; rfl
  unfold toOf
  rw [this, if_neg (by omega)]
theorem refRuns_l1 (l : List Int) (hl : l.length ≤ 64) (hm : ∀ x ∈ l, letterB x = true) (i : Nat) (hi : i < l.length) (acc : List S35) (ha : acc.length ≤ i) (r : List S35 × Int)
    (hc : Ev (fun k => cognateref15_Runs.l0 k l (push l i ((l.length - i) / 2) acc) ((i + 1 : Nat) : Int)) r) : ∀ (d q : Nat), l.length + 1 - q = d → q ≤ l.length + 1 → i + 2 ≤ q → Ev (fun k => cognateref15_Runs.l1 k l acc (i : Int) ((toOf l i ((q - 1 - i) / 2) : Nat) : Int) (q : Int)) r := by
  intro d
  induction d with
  | zero =>
    intro q hd hq hq2
    obtain rfl : q = l.length + 1 := by omega
    refine Ev.step (fun k => by rw [cognateref15_Runs.l1]) (Ev.ifn (by omega) ?_)
    rw [show l.length + 1 - 1 - i = l.length - i by omega]
    unfold push at hc
    unfold toOf
    by_cases hb : best l i ((l.length - i) / 2) = 0
    · rw [if_pos hb] at hc ⊢
      refine Ev.ifn (by omega) ?_
      rw [w64s (by omega)]
      exact hc
    · rw [if_neg hb] at hc ⊢
      refine Ev.ifp (by omega) (Ev.ifp (by omega) ?_)
      rw [w64s (by omega)]
      exact hc
  | succ d ih =>
    intro q hd hq hq2
    refine Ev.step (fun k => by rw [cognateref15_Runs.l1]) (Ev.ifp (by omega) (Ev.ifp (by omega) (Ev.ifp (by omega) ?_)))
    rw [Int.toNat_natCast, Int.toNat_natCast]
    refine Ev.someb (a := halfB ((l.take q).drop i)) (fun _ => square_eq _ (by rw [List.length_drop, List.length_take]; omega) (fun x hx => hm x (List.mem_of_mem_take (List.mem_of_mem_drop hx)))) ?_
    have hlen : ((l.take q).drop i).length = q - i := by rw [List.length_drop, List.length_take]; omega
    have ihq := ih (q + 1) (by omega) (by omega) (by omega)
    rw [show q + 1 - 1 - i = q - i by omega] at ihq
    rw [w64s (by omega)]
    by_cases ev : (q - i) % 2 = 0
    · obtain ⟨n, hn⟩ : ∃ n, q = i + 2 * (n + 1) := ⟨(q - i) / 2 - 1, by omega⟩
      have h1 : (q - i) / 2 = n + 1 := by omega
      have h2 : (q - 1 - i) / 2 = n := by omega
      rw [h1] at ihq
      rw [h2]
      have hs : (l.take q).drop i = seg l i (n + 1) := by rw [hn]; rfl
      rw [hs]
      rcases hb : halfB (seg l i (n + 1)) with _ | _
      · refine Ev.ifn (by decide) ?_
        rw [toOf_no hb] at ihq
        exact ihq
      · refine Ev.ifp rfl ?_
        rw [toOf_yes hb, ← hn] at ihq
        exact ihq
    · have hb : halfB ((l.take q).drop i) = false := by
        unfold halfB
        rw [hlen, decide_eq_false ev, Bool.false_and]
      rw [hb]
      refine Ev.ifn (by decide) ?_
      rw [show (q - i) / 2 = (q - 1 - i) / 2 by omega] at ihq
      exact ihq
theorem refRuns_l0 (l : List Int) (hl : l.length ≤ 64) (hm : ∀ x ∈ l, letterB x = true) : ∀ (d i : Nat) (acc : List S35), l.length - i = d → i ≤ l.length → acc.length ≤ i → Ev (fun k => cognateref15_Runs.l0 k l acc (i : Int)) (runsV l d i acc, 0) := by
  intro d
  induction d with
  | zero =>
    intro i acc hd hi ha
    refine Ev.step (fun k => by rw [cognateref15_Runs.l0]) (Ev.ifn (by omega) (Ev.ret ?_))
    rfl
  | succ d ih =>
    intro i acc hd hi ha
    refine Ev.step (fun k => by rw [cognateref15_Runs.l0]) (Ev.ifp (by omega) ?_)
    rw [show wrap64 ((i : Int) + 2) = ((i + 2 : Nat) : Int) by rw [w64 (by omega)]; omega]
    have h := refRuns_l1 l hl hm i (by omega) acc ha (runsV l (d + 1) i acc, 0) (by
      simp only [runsV]
      exact ih (i + 1) _ (by omega) (by omega) (by have := push_len l i ((l.length - i) / 2) acc; omega)) (l.length + 1 - (i + 2)) (i + 2) rfl (by omega) (by omega)
    rw [show (i + 2 - 1 - i) / 2 = 0 by omega] at h
    exact h
theorem refRuns_ev (F : List ByteArray) (L : List S53) (s : ByteArray) : Ev (fun k => cognateref15_Runs.f k F L s) (runsOf F L s) := by
  unfold runsOf
  refine Ev.bind (refLetters_ev F L s) ?_
  by_cases h : (lettersV F L s).2 = 0
  · rw [if_pos h]
    exact Ev.ifp h (refRuns_l0 _ (lettersV_len F L s) (lettersV_letter F L s) _ 0 [] (by omega) (by omega) (by simp))
  · rw [if_neg h]
    exact Ev.ifn h (Ev.now _)
theorem refPer_l1 (l : List Int) (hl : l.length ≤ 64) (p : Nat) (hp : p ≤ l.length) (r : Int × Int) (hyes : perB l p = true → r = ((p : Int), 0)) (hno : perB l p = false → Ev (fun k => cognateref15_Period.l0 k l ((p + 1 : Nat) : Int)) r) :
    ∀ (d j : Nat) (ok : Bool), l.length - j = d → j ≤ l.length → p ≤ j → (ok = true ↔ ∀ q : Nat, p ≤ q → q < j → rd l (q : Int) = rd l ((q - p : Nat) : Int)) → Ev (fun k => cognateref15_Period.l1 k l (p : Int) ok (j : Int)) r := by
  intro d
  induction d with
  | zero =>
    intro j ok hd hj hpj hok
    obtain rfl : j = l.length := by omega
    rw [← perB_iff l p hp] at hok
    refine Ev.step (fun k => by rw [cognateref15_Period.l1]) (Ev.ifn (by omega) ?_)
    rcases hb : perB l p with _ | _
    · refine Ev.ifn (fun h => by rw [hok.1 h] at hb; cases hb) ?_
      rw [w64s (by omega)]
      exact hno hb
    · exact Ev.ifp (hok.2 hb) (Ev.ret (hyes hb).symm)
  | succ d ih =>
    intro j ok hd hj hpj hok
    refine Ev.step (fun k => by rw [cognateref15_Period.l1]) (Ev.ifp (by omega) ?_)
    have e : wrap64 ((j : Int) - (p : Int)) = ((j - p : Nat) : Int) := by rw [w64 (by omega)]; omega
    cases ok with
    | true =>
      refine Ev.ifp rfl (Ev.ifp (by omega) ?_)
      rw [e]
      refine Ev.ifp (by omega) (Ev.ifp (by omega) ?_)
      rw [w64s (by omega)]
      refine ih (j + 1) _ (by omega) (by omega) (by omega) ?_
      rw [beq_iff_eq]
      constructor
      · intro h q h1 h2
        rcases Nat.lt_or_ge q j with h3 | h3
        · exact hok.1 rfl q h1 h3
        · obtain rfl : q = j := by omega
          exact h
      · intro h
        exact h j hpj (by omega)
    | false =>
      refine Ev.ifn (by decide) ?_
      rw [w64s (by omega)]
      refine ih (j + 1) false (by omega) (by omega) (by omega) ?_
      constructor
      · intro h; cases h
      · intro h
        exact hok.2 (fun q h1 h2 => h q h1 (by omega))
theorem refPer_l0 (l : List Int) (hl : l.length ≤ 64) : ∀ (d p : Nat), l.length - p = d → p ≤ l.length → 1 ≤ p → Ev (fun k => cognateref15_Period.l0 k l (p : Int)) (((perV l d p : Nat) : Int), 0) := by
  intro d
  induction d with
  | zero =>
    intro p hd hp h1
    refine Ev.step (fun k => by rw [cognateref15_Period.l0]) ?_
    obtain rfl : p = l.length := by omega
    refine refPer_l1 l hl l.length hp _ (fun _ => rfl) (fun h => ?_) _ _ true rfl hp (Nat.le_refl _) ⟨fun _ q h1 h2 => by omega, fun _ => rfl⟩
    have : perB l l.length = true := (perB_iff l l.length hp).2 (fun q h1 h2 => by omega)
    rw [this] at h
    cases h
  | succ d ih =>
    intro p hd hp h1
    refine Ev.step (fun k => by rw [cognateref15_Period.l0]) ?_
    refine refPer_l1 l hl p hp _ (fun h => ?_) (fun h => ?_) _ _ true rfl hp (Nat.le_refl _) ⟨fun _ q h1 h2 => by omega, fun _ => rfl⟩
    · simp only [perV, h, if_true]
    · have e : perV l (d + 1) p = perV l d (p + 1) := by simp only [perV, h]; rfl
      rw [e]
      exact ih (p + 1) (by omega) (by omega) (by omega)
theorem refPeriod_ev (F : List ByteArray) (L : List S53) (s : ByteArray) : Ev (fun k => cognateref15_Period.f k F L s) (periodOf F L s) := by
  unfold periodOf
  refine Ev.bind (refLetters_ev F L s) ?_
  have hl := lettersV_len F L s
  by_cases h : (lettersV F L s).2 = 0
  · rw [if_pos h]
    refine Ev.ifp h (Ev.step (fun k => by rw [cognateref15_Period.j0]) ?_)
    unfold periodV
    by_cases h0 : (lettersV F L s).1.length = 0
    · rw [if_pos h0]
      exact Ev.ifp (by simp [h0]) (Ev.ret (by rw [h]; rfl))
    · rw [if_neg h0]
      refine Ev.ifn (by simpa using h0) ?_
      exact refPer_l0 _ hl _ 1 rfl (by omega) (by omega)
  · rw [if_neg h]
    exact Ev.ifn h (Ev.step (fun k => by rw [cognateref15_Period.j0]) (Ev.ifp rfl (Ev.now _)))
theorem spans_l0 (a : List S35) (ha : a.length ≤ 1000000) : ∀ (d i : Nat), a.length - i = d → i ≤ a.length → Ev (fun k => cognateref03_SameSpans.l0 k a a (i : Int)) true := by
  intro d
  induction d with
  | zero =>
    intro i hd hi
    exact Ev.step (fun k => by rw [cognateref03_SameSpans.l0]) (Ev.ifn (by omega) (Ev.now _))
  | succ d ih =>
    intro i hd hi
    refine Ev.step (fun k => by rw [cognateref03_SameSpans.l0]) (Ev.ifp (by omega) (Ev.ifp (by omega) (Ev.ifp (by omega) (Ev.ifn (by simp) ?_))))
    rw [w64s (by omega)]
    exact ih (i + 1) (by omega) (by omega)
theorem spans_ev (a : List S35) (ha : a.length ≤ 1000000) : Ev (fun k => cognateref03_SameSpans.f k a a) true :=
  Ev.ifp rfl (spans_l0 a ha a.length 0 (by omega) (by omega))
end Go.Proofs.YtjnikjnkmcbjfaaDoor.X
