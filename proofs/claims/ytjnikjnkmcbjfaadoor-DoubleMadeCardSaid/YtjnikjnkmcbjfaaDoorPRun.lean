/- The plain law: what stands twice in a word, and its period: what the program's loops come to. No program in sight. -/
import Derived.Test.YtjnikjnkmcbjfaaDoorPRunes
import Derived.Test.YtjnikjnkmcbjfaaDoorX30
import Derived.Test.YtjnikjnkmcbjfaaDoorX29
import Derived.Test.YtjnikjnkmcbjfaaDoorX9
namespace Go.Proofs.YtjnikjnkmcbjfaaDoor.X
open Go.RowKit Go.Proofs.YtjnikjnkmcbjfaaDoorW.PrintWords Go.Proofs.YtjnikjnkmcbjfaaDoorW.PrintLast Go.Proofs.YtjnikjnkmcbjfaaDoorW.PrintMore
/-! ### Equal -/
theorem equal_l0 (a b : List Int) (hl : a.length = b.length) (hb : a.length ≤ 1000000) : ∀ (d i : Nat), a.length - i = d → i ≤ a.length → Ev (fun k => slices_Equal_rune_rune.l0 k a b (a.length : Int) (i : Int)) (decide (a.drop i = b.drop i)) := by
  intro d
  induction d with
  | zero =>
    intro i hd hi
    refine Ev.step (fun k => by rw [slices_Equal_rune_rune.l0]) (Ev.ifn (by omega) (Ev.ret ?_))
    rw [List.drop_eq_nil_of_le (by omega), List.drop_eq_nil_of_le (by omega)]
    rfl
  | succ d ih =>
    intro i hd hi
    refine Ev.step (fun k => by rw [slices_Equal_rune_rune.l0]) (Ev.ifp (by omega) (Ev.ifp (by omega) (Ev.ifp (by omega) (Ev.ifp (by omega) ?_))))
    rw [rdn a i (by omega), rdn b i (by omega), List.drop_eq_getElem_cons (show i < a.length by omega), List.drop_eq_getElem_cons (show i < b.length by omega)]
    by_cases e : a[i] = b[i]
    · refine Ev.ifp e ?_
      rw [w64s (by omega)]
      simp only [List.cons.injEq, e, true_and]
      exact ih (i + 1) (by omega) (by omega)
    · refine Ev.ifn e (Ev.ret ?_)
      rw [decide_eq_false (fun h => e (List.cons.inj h).1)]
theorem equal_ev (a b : List Int) (hb : a.length ≤ 1000000) : Ev (fun k => slices_Equal_rune_rune.f k a b) (decide (a = b)) := by
  by_cases h : a.length = b.length
  · refine Ev.ifp (by omega) ?_
    exact equal_l0 a b h hb a.length 0 (by omega) (by omega)
  · refine Ev.ifn (by omega) (Ev.ret ?_)
    rw [decide_eq_false (fun e => h (by rw [e]))]
/-! ### two like halves -/
def halfB (m : List Int) : Bool := decide (m.length % 2 = 0) && decide (m.take (m.length / 2) = m.drop (m.length / 2))
theorem half_w (m : List Int) (h : m.length ≤ 1000000) : wrap64 ((m.length : Int) / 2) = ((m.length / 2 : Nat) : Int) := by rw [w64 (by omega)]; omega
theorem twice_ev (m : List Int) (h : m.length ≤ 1000000) : Ev (fun k => double_twice.f k m) (halfB m) := by
  unfold halfB double_twice.f
  rw [half_w m h]
  by_cases e : m.length % 2 = 0
  · rw [decide_eq_true e, Bool.true_and]
    refine Ev.ifp (by omega) (Ev.ifp (by omega) (Ev.ifp (by omega) ?_))
    rw [Int.toNat_natCast]
    exact Ev.bind (equal_ev _ _ (by rw [List.length_take]; omega)) (Ev.now _)
  · rw [decide_eq_false e, Bool.false_and]
    exact Ev.ifn (by omega) (Ev.now _)
/-! ### Runs -/
def seg (l : List Int) (i h : Nat) : List Int := (l.take (i + 2 * h)).drop i
/-- The longest half of at most h letters that stands twice at i; 0: none. -/
def best (l : List Int) (i : Nat) : Nat → Nat
  | 0 => 0
  | h + 1 => if halfB (seg l i (h + 1)) = true then h + 1 else best l i h
def push (l : List Int) (i h : Nat) (acc : List S35) : List S35 := if best l i h = 0 then acc else acc ++ [⟨(i : Int), ((i + 2 * best l i h : Nat) : Int)⟩]
def runsV (l : List Int) : Nat → Nat → List S35 → List S35
  | 0, _, acc => acc
  | d + 1, i, acc => runsV l d (i + 1) (push l i ((l.length - i) / 2) acc)
theorem push_no {l : List Int} {i h : Nat} (hb : halfB (seg l i (h + 1)) = false) (acc : List S35) : push l i (h + 1) acc = push l i h acc := by
  have : best l i (h + 1) = best l i h := by simp only [best, hb]; rfl
  unfold push
  rw [this]
theorem push_yes {l : List Int} {i h : Nat} (hb : halfB (seg l i (h + 1)) = true) (acc : List S35) : push l i (h + 1) acc = acc ++ [⟨(i : Int), ((i + 2 * (h + 1) : Nat) : Int)⟩] := by
  have : best l i (h + 1) = h + 1 := by simp only [best, hb]; rfl
  unfold push
  rw [this, if_neg (by omega)]
theorem push_len (l : List Int) (i h : Nat) (acc : List S35) : (push l i h acc).length ≤ acc.length + 1 := by
  unfold push
  split
  · omega
  · rw [List.length_append]; simp
theorem seg_len (l : List Int) (i h : Nat) (hh : i + 2 * h ≤ l.length) : (seg l i h).length = 2 * h := by
  unfold seg
  rw [List.length_drop, List.length_take]
  omega
theorem runs_l1 (l : List Int) (hl : l.length ≤ 64) (i : Nat) (hi : i < l.length) (acc : List S35) (ha : acc.length ≤ i) (r : List S35 × Int) : ∀ h : Nat, i + 2 * h ≤ l.length → Ev (fun k => double_Runs.l0 k l (push l i h acc) (l.length : Int) ((i + 1 : Nat) : Int)) r → Ev (fun k => double_Runs.l1 k l acc (i : Int) (h : Int) (l.length : Int) (i : Int)) r := by
  intro h
  induction h with
  | zero =>
    intro _ hc
    refine Ev.step (fun k => by rw [double_Runs.l1]) (Ev.ifn (by omega) ?_)
    rw [w64s (by omega)]
    exact hc
  | succ h ih =>
    intro hh hc
    have e2 : wrap64 ((i : Int) + wrap64 (2 * ((h + 1 : Nat) : Int))) = ((i + 2 * (h + 1) : Nat) : Int) := by rw [w64 (n := 2 * ((h + 1 : Nat) : Int)) (by omega), w64 (by omega)]; omega
    refine Ev.step (fun k => by rw [double_Runs.l1]) (Ev.ifp (by omega) (Ev.ifp (by omega) ?_))
    rw [e2]
    refine Ev.ifp (by omega) (Ev.ifp (by omega) ?_)
    rw [Int.toNat_natCast, Int.toNat_natCast]
    refine Ev.bind (a := halfB (seg l i (h + 1))) (twice_ev _ (by rw [List.length_drop, List.length_take]; omega)) ?_
    rcases hb : halfB (seg l i (h + 1)) with _ | _
    · rw [push_no hb] at hc
      refine Ev.ifn (by decide) ?_
      rw [show wrap64 (((h + 1 : Nat) : Int) - 1) = (h : Int) by rw [w64 (by omega)]; omega]
      exact ih (by omega) hc
    · rw [push_yes hb] at hc
      refine Ev.ifp rfl (Ev.ifp (by omega) ?_)
      rw [w64s (by omega)]
      exact hc
theorem runs_l0 (l : List Int) (hl : l.length ≤ 64) : ∀ (d i : Nat) (acc : List S35), l.length - i = d → i ≤ l.length → acc.length ≤ i → Ev (fun k => double_Runs.l0 k l acc (l.length : Int) (i : Int)) (runsV l d i acc, 0) := by
  intro d
  induction d with
  | zero =>
    intro i acc hd hi ha
    refine Ev.step (fun k => by rw [double_Runs.l0]) (Ev.ifn (by omega) (Ev.ret ?_))
    rfl
  | succ d ih =>
    intro i acc hd hi ha
    refine Ev.step (fun k => by rw [double_Runs.l0]) (Ev.ifp (by omega) ?_)
    have e : wrap64 (Int.tdiv (wrap64 ((l.length : Int) - (i : Int))) 2) = (((l.length - i) / 2 : Nat) : Int) := by
      rw [w64 (n := (l.length : Int) - (i : Int)) (by omega), Int.tdiv_eq_ediv_of_nonneg (by omega), w64 (by omega)]
      omega
    rw [e]
    refine runs_l1 l hl i (by omega) acc ha _ _ (by omega) ?_
    simp only [runsV]
    exact ih (i + 1) _ (by omega) (by omega) (by have := push_len l i ((l.length - i) / 2) acc; omega)
/-- What stands twice in a word, or the error. -/
def runsOf (F : List ByteArray) (L : List S53) (s : ByteArray) : List S35 × Int := if (lettersV F L s).2 = 0 then (runsV (lettersV F L s).1 (lettersV F L s).1.length 0 [], 0) else ([], (lettersV F L s).2)
theorem runs_ev (F : List ByteArray) (L : List S53) (s : ByteArray) : Ev (fun k => double_Runs.f k F L s) (runsOf F L s) := by
  unfold runsOf
  refine Ev.someb (fun _ => letters_eq F L s) ?_
  by_cases h : (lettersV F L s).2 = 0
  · rw [if_pos h]
    exact Ev.ifp h (runs_l0 _ (lettersV_len F L s) _ 0 [] (by omega) (by omega) (by simp))
  · rw [if_neg h]
    exact Ev.ifn h (Ev.now _)
/-! ### Period -/
def perB (l : List Int) (p : Nat) : Bool := decide (l.drop p = l.take (l.length - p))
def perV (l : List Int) : Nat → Nat → Nat
  | 0, p => p
  | d + 1, p => if perB l p = true then p else perV l d (p + 1)
theorem per_l0 (l : List Int) (hl : l.length ≤ 64) : ∀ (d p : Nat), l.length - p = d → p ≤ l.length → 1 ≤ p → Ev (fun k => double_Period.l0 k l (l.length : Int) (p : Int)) (((perV l d p : Nat) : Int), 0) := by
  intro d
  induction d with
  | zero =>
    intro p hd hp h1
    obtain rfl : p = l.length := by omega
    refine Ev.step (fun k => by rw [double_Period.l0]) (Ev.ifn (by omega) (Ev.ret ?_))
    rfl
  | succ d ih =>
    intro p hd hp h1
    have e : wrap64 ((l.length : Int) - (p : Int)) = ((l.length - p : Nat) : Int) := by rw [w64 (by omega)]; omega
    refine Ev.step (fun k => by rw [double_Period.l0]) (Ev.ifp (by omega) (Ev.ifp (by omega) (Ev.ifp (by omega) (Ev.ifp (by omega) ?_))))
    rw [e, Int.toNat_natCast, Int.toNat_natCast]
    refine Ev.ifp (by omega) (Ev.ifp (by omega) (Ev.bind (a := perB l p) (equal_ev _ _ (by rw [List.length_drop]; omega)) ?_))
    simp only [perV]
    rcases hb : perB l p with _ | _
    · refine Ev.ifn (by decide) ?_
      rw [w64s (by omega), if_neg (by decide)]
      exact ih (p + 1) (by omega) (by omega) (by omega)
    · exact Ev.ifp rfl (Ev.ret (by rw [if_pos rfl]))
theorem perB_iff (l : List Int) (p : Nat) (hp : p ≤ l.length) : perB l p = true ↔ ∀ q : Nat, p ≤ q → q < l.length → rd l (q : Int) = rd l ((q - p : Nat) : Int) := by
  unfold perB
  rw [decide_eq_true_eq]
  constructor
  · intro h q h1 h2
    rw [rdn l q h2, rdn l (q - p) (by omega)]
    have h3 : (l.drop p)[q - p]? = (l.take (l.length - p))[q - p]? := by rw [h]
    rw [List.getElem?_drop, List.getElem?_take, if_pos (by omega), show p + (q - p) = q by omega, List.getElem?_eq_getElem h2, List.getElem?_eq_getElem (show q - p < l.length by omega)] at h3
    exact Option.some.inj h3
  · intro h
    refine List.ext_getElem (by rw [List.length_drop, List.length_take]; omega) (fun j h1 h2 => ?_)
    rw [List.length_drop] at h1
    rw [List.getElem_drop, List.getElem_take]
    have h3 := h (p + j) (by omega) (by omega)
    rw [rdn l (p + j) (by omega), show p + j - p = j by omega, rdn l j (by omega)] at h3
    exact h3
/-- A row's period. -/
def periodV (l : List Int) : Nat := if l.length = 0 then 0 else perV l (l.length - 1) 1
def periodOf (F : List ByteArray) (L : List S53) (s : ByteArray) : Int × Int := if (lettersV F L s).2 = 0 then (((periodV (lettersV F L s).1 : Nat) : Int), 0) else (0, (lettersV F L s).2)
theorem period_ev (F : List ByteArray) (L : List S53) (s : ByteArray) : Ev (fun k => double_Period.f k F L s) (periodOf F L s) := by
  unfold periodOf
  refine Ev.someb (fun _ => letters_eq F L s) ?_
  have hl := lettersV_len F L s
  by_cases h : (lettersV F L s).2 = 0
  · rw [if_pos h]
    refine Ev.ifp h ?_
    unfold periodV
    by_cases h0 : (lettersV F L s).1.length = 0
    · rw [if_pos h0]
      refine Ev.step (fun k => by rw [double_Period.l0]) (Ev.ifn (by omega) (Ev.ret ?_))
      rw [h0]
    · rw [if_neg h0]
      refine Ev.step (fun k => by rw [double_Period.l0]) (Ev.ifp (by omega) (Ev.ifn (by omega) ?_))
      rw [show wrap64 ((0 : Int) + 1) = ((1 : Nat) : Int) by rw [w64 (by omega)]; rfl]
      exact per_l0 _ hl _ 1 rfl (by omega) (by omega)
  · rw [if_neg h]
    exact Ev.ifn h (Ev.now _)
/-! ### SameSpans -/
theorem runsV_len (l : List Int) : ∀ (d i : Nat) (acc : List S35), acc.length ≤ i → (runsV l d i acc).length ≤ i + d
  | 0, i, acc, h => by simp only [runsV]; omega
  | d + 1, i, acc, h => by
    simp only [runsV]
    have := runsV_len l d (i + 1) (push l i ((l.length - i) / 2) acc) (by have := push_len l i ((l.length - i) / 2) acc; omega)
    omega
theorem runsOf_len (F : List ByteArray) (L : List S53) (s : ByteArray) : (runsOf F L s).1.length ≤ 64 := by
  unfold runsOf
  split
  · have := runsV_len (lettersV F L s).1 (lettersV F L s).1.length 0 [] (by simp)
    have := lettersV_len F L s
    simp only
    omega
  · simp
/-! ### the document's example -/
theorem awake_ev : Ev (fun k => cognatelaw15_awake.f k) true := by
  refine Ev.someb (fun _ => rfl) ?_
  refine Ev.bind (a := ((⟨#[98, 97, 98, 97, 116]⟩ : ByteArray), 0)) ?_ (Ev.ifp rfl (Ev.ret (by simp only [ByteArray.toList_eq]; rfl)))
  have hl : lettersV ([(⟨#[118]⟩ : ByteArray)] : List ByteArray) ([(⟨97, 1, 0⟩ : S53), (⟨98, 0, 0⟩ : S53), (⟨116, 0, 0⟩ : S53)] : List (S53)) (⟨#[98, 97, 116]⟩ : ByteArray) = ([98, 97, 116], 0) := by kernel_rfl
  refine Ev.someb (fun _ => letters_eq _ _ _) ?_
  rw [hl]
  refine Ev.ifp rfl (Ev.ifn (by decide) (Ev.step (fun k => by rw [double_Front.j0]) (Ev.ifn (by decide) (Ev.ifn (by decide) ?_))))
  refine Ev.someb (a := (⟨#[98, 97, 98, 97, 116]⟩ : ByteArray)) (fun _ => by kernel_rfl) (Ev.now _)
end Go.Proofs.YtjnikjnkmcbjfaaDoor.X
