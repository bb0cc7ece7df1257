/- The plain law: what stands twice in a word, and its period: the program's loops and the document's come to the same. No program in sight. -/
import Derived.Test.YtjnikjnkmcbjfaaDoorPLetters
import Derived.Test.YtjnikjnkmcbjfaaDoorX22
import Derived.Test.YtjnikjnkmcbjfaaDoorX21
import Derived.Test.YtjnikjnkmcbjfaaDoorX5
import Derived.Test.YtjnikjnkmcbjfaaDoorX16
import Derived.Test.YtjnikjnkmcbjfaaDoorX7
namespace Go.Proofs.YtjnikjnkmcbjfaaDoor.X
open Go.RowKit Go.Proofs.YtjnikjnkmcbjfaaDoorW.PrintWords Go.Proofs.YtjnikjnkmcbjfaaDoorW.PrintLast Go.Proofs.YtjnikjnkmcbjfaaDoorW.PrintMore
theorem rdn (xs : List Int) (i : Nat) (h : i < xs.length) : rd xs (i : Int) = xs[i] := by simp [rd, List.getD_eq_getElem?_getD, h]
/-! ### Equal -/
theorem equal_l0 (a b : List Int) (hl : a.length = b.length) (hb : a.length ≤ 1000000) : ∀ (d i : Nat), a.length - i = d → i ≤ a.length → Ev (fun k => slices_Equal_rune_rune.l0 k a b (a.length : Int) (i : Int)) (decide (a.drop i = b.drop i)) := by
  intro d
  induction d with
  | zero =>
    intro i hd hi
    refine Ev.step (fun k => by rw [slices_Equal_rune_rune.l0]) (Ev.ifn (by omega) (Ev.ret ?_))
    rw [List.drop_eq_nil_of_le (by omega), List.drop_eq_nil_of_le (by omega)]
    rfl
  | succ d ih =>
    intro i hd hi
    refine Ev.step (fun k => by rw [slices_Equal_rune_rune.l0]) (Ev.ifp (by omega) (Ev.ifp (by omega) (Ev.ifp (by omega) (Ev.ifp (by omega) ?_))))
    rw [rdn a i (by omega), rdn b i (by omega), List.drop_eq_getElem_cons (show i < a.length by omega), List.drop_eq_getElem_cons (show i < b.length by omega)]
    by_cases e : a[i] = b[i]
    · refine Ev.ifp e ?_
      rw [w64s (by omega)]
      simp only [List.cons.injEq, e, true_and]
      exact ih (i + 1) (by omega) (by omega)
    · refine Ev.ifn e (Ev.ret ?_)
      rw [decide_eq_false (fun h => e (List.cons.inj h).1)]
theorem equal_ev (a b : List Int) (hb : a.length ≤ 1000000) : Ev (fun k => slices_Equal_rune_rune.f k a b) (decide (a = b)) := by
  by_cases h : a.length = b.length
  · refine Ev.ifp (by omega) ?_
    exact equal_l0 a b h hb a.length 0 (by omega) (by omega)
  · refine Ev.ifn (by omega) (Ev.ret ?_)
    rw [decide_eq_false (fun e => h (by rw [e]))]
/-! ### two like halves -/
def halfB (m : List Int) : Bool := decide (m.length % 2 = 0) && decide (m.take (m.length / 2) = m.drop (m.length / 2))
theorem half_w (m : List Int) (h : m.length ≤ 1000000) : wrap64 ((m.length : Int) / 2) = ((m.length / 2 : Nat) : Int) := by rw [w64 (by omega)]; omega
theorem twice_ev (m : List Int) (h : m.length ≤ 1000000) : Ev (fun k => double_twice.f k m) (halfB m) := by
  unfold halfB double_twice.f
  rw [half_w m h]
  by_cases e : m.length % 2 = 0
  · rw [decide_eq_true e, Bool.true_and]
    refine Ev.ifp (by omega) (Ev.ifp (by omega) (Ev.ifp (by omega) ?_))
    rw [Int.toNat_natCast]
    exact Ev.bind (equal_ev _ _ (by rw [List.length_take]; omega)) (Ev.now _)
  · rw [decide_eq_false e, Bool.false_and]
    exact Ev.ifn (by omega) (Ev.now _)
/-! ### a row of letters is told by its bytes -/
theorem runes_fold (xs : List Int) : ∀ acc : ByteArray, (xs.foldl (fun r n => r ++ Utf8.encode n) acc).data.toList = acc.data.toList ++ xs.flatMap (fun n => (Utf8.encode n).data.toList) := by
  induction xs with
  | nil => simp
  | cons x xs ih =>
    intro acc
    rw [List.foldl_cons, ih, ByteArray.data_append, Array.toList_append, List.flatMap_cons, List.append_assoc]
theorem runes_bytes (xs : List Int) : (runesBytes xs).toList = xs.flatMap (fun n => (Utf8.encode n).data.toList) := by
  rw [ByteArray.toList_eq, runesBytes, runes_fold]
  rfl
theorem letter_valid {r : Int} (h : letterB r = true) : Utf8.valid r = true ∧ 65 ≤ r ∧ r ≤ 1114111 := by
  simp only [letterB, Bool.or_eq_true, decide_eq_true_eq] at h
  refine ⟨?_, by omega, by omega⟩
  simp only [Utf8.valid]
  simp
  omega
def encL (c : Nat) : List Nat :=
  if c < 128 then [c] else if c < 2048 then [192 + c / 64, 128 + c % 64] else if c < 65536 then [224 + c / 4096, 128 + c / 64 % 64, 128 + c % 64] else [240 + c / 262144, 128 + c / 4096 % 64, 128 + c / 64 % 64, 128 + c % 64]
theorem enc_map {r : Int} (h : letterB r = true) : (Utf8.encode r).data.toList.map UInt8.toNat = encL r.toNat := by
  obtain ⟨v, h1, h2⟩ := letter_valid h
  have hb : ∀ m : Nat, m < 256 → (UInt8.ofNat m).toNat = m := fun m hm => by simp; omega
  simp only [Utf8.encode, v, if_true, encL]
  split
  · simp only [List.map_cons, List.map_nil, hb _ (show r.toNat < 256 by omega)]
  · split
    · simp only [List.map_cons, List.map_nil, hb _ (show 192 + r.toNat / 64 < 256 by omega), hb _ (show 128 + r.toNat % 64 < 256 by omega)]
    · split
      · simp only [List.map_cons, List.map_nil, hb _ (show 224 + r.toNat / 4096 < 256 by omega), hb _ (show 128 + r.toNat / 64 % 64 < 256 by omega), hb _ (show 128 + r.toNat % 64 < 256 by omega)]
      · simp only [List.map_cons, List.map_nil, hb _ (show 240 + r.toNat / 262144 < 256 by omega), hb _ (show 128 + r.toNat / 4096 % 64 < 256 by omega), hb _ (show 128 + r.toNat / 64 % 64 < 256 by omega), hb _ (show 128 + r.toNat % 64 < 256 by omega)]
theorem encL_inj {c d : Nat} {x y : List Nat} (hc : c ≤ 1114111) (hd : d ≤ 1114111) (h : encL c ++ x = encL d ++ y) : c = d ∧ x = y := by
  unfold encL at h
  by_cases c1 : c < 128 <;> by_cases c2 : c < 2048 <;> by_cases c3 : c < 65536 <;> by_cases d1 : d < 128 <;> by_cases d2 : d < 2048 <;> by_cases d3 : d < 65536 <;> try omega
  all_goals simp only [c1, c2, c3, d1, d2, d3, if_true, if_false, List.cons_append, List.nil_append, List.cons.injEq] at h
  all_goals first | (refine ⟨?_, ?_⟩; omega; first | exact h.2 | exact h.2.2 | exact h.2.2.2 | exact h.2.2.2.2) | (exfalso; have := h.1; omega)
theorem encL_ne (c : Nat) : encL c ≠ [] := by
  unfold encL
  repeat' split
  all_goals simp
theorem runes_inj : ∀ xs ys : List Int, (∀ x ∈ xs, letterB x = true) → (∀ y ∈ ys, letterB y = true) → xs.flatMap (fun n => encL n.toNat) = ys.flatMap (fun n => encL n.toNat) → xs = ys
  | [], [], _, _, _ => rfl
  | [], y :: ys, _, _, h => by
    rw [List.flatMap_cons] at h
    exact absurd (List.append_eq_nil_iff.1 h.symm).1 (encL_ne _)
  | x :: xs, [], _, _, h => by
    rw [List.flatMap_cons] at h
    exact absurd (List.append_eq_nil_iff.1 h).1 (encL_ne _)
  | x :: xs, y :: ys, hx, hy, h => by
    rw [List.flatMap_cons, List.flatMap_cons] at h
    obtain ⟨_, a1, a2⟩ := letter_valid (hx x (by simp))
    obtain ⟨_, b1, b2⟩ := letter_valid (hy y (by simp))
    obtain ⟨h1, h2⟩ := encL_inj (by omega) (by omega) h
    rw [show x = y by omega, runes_inj xs ys (fun z hz => hx z (by simp [hz])) (fun z hz => hy z (by simp [hz])) h2]
theorem runes_map (xs : List Int) (h : ∀ x ∈ xs, letterB x = true) : (xs.flatMap (fun n => (Utf8.encode n).data.toList)).map UInt8.toNat = xs.flatMap (fun n => encL n.toNat) := by
  induction xs with
  | nil => rfl
  | cons x xs ih => rw [List.flatMap_cons, List.flatMap_cons, List.map_append, enc_map (h x (by simp)), ih (fun z hz => h z (by simp [hz]))]
theorem runes_eq (xs ys : List Int) (hx : ∀ x ∈ xs, letterB x = true) (hy : ∀ y ∈ ys, letterB y = true) : ((runesBytes xs).toList == (runesBytes ys).toList) = decide (xs = ys) := by
  rw [Bool.eq_iff_iff, beq_iff_eq, decide_eq_true_eq]
  constructor
  · intro h
    rw [runes_bytes, runes_bytes] at h
    refine runes_inj xs ys hx hy ?_
    rw [← runes_map xs hx, ← runes_map ys hy, h]
  · intro h
    rw [h]
theorem square_eq (m : List Int) (h : m.length ≤ 1000000) (hm : ∀ x ∈ m, letterB x = true) : cognateref15_square.f m = some (halfB m) := by
  unfold cognateref15_square.f halfB
  rw [half_w m h]
  by_cases e : m.length % 2 = 0
  · rw [if_pos (by omega), if_pos (by omega), if_pos (by omega), Int.toNat_natCast, decide_eq_true e, Bool.true_and, runes_eq _ _ (fun x hx => hm x (List.mem_of_mem_take hx)) (fun x hx => hm x (List.mem_of_mem_drop hx))]
  · rw [if_neg (by omega), decide_eq_false e, Bool.false_and]
/-! ### Runs -/
def seg (l : List Int) (i h : Nat) : List Int := (l.take (i + 2 * h)).drop i
/-- The longest half of at most h letters that stands twice at i; 0: none. -/
def best (l : List Int) (i : Nat) : Nat → Nat
  | 0 => 0
  | h + 1 => if halfB (seg l i (h + 1)) = true then h + 1 else best l i h
def push (l : List Int) (i h : Nat) (acc : List S35) : List S35 := if best l i h = 0 then acc else acc ++ [⟨(i : Int), ((i + 2 * best l i h : Nat) : Int)⟩]
def runsV (l : List Int) : Nat → Nat → List S35 → List S35
  | 0, _, acc => acc
  | d + 1, i, acc => runsV l d (i + 1) (push l i ((l.length - i) / 2) acc)
theorem push_no {l : List Int} {i h : Nat} (hb : halfB (seg l i (h + 1)) = false) (acc : List S35) : push l i (h + 1) acc = push l i h acc := by
  have : best l i (h + 1) = best l i h := by simp only [best, hb]; rfl
  unfold push
  rw [this]
theorem push_yes {l : List Int} {i h : Nat} (hb : halfB (seg l i (h + 1)) = true) (acc : List S35) : push l i (h + 1) acc = acc ++ [⟨(i : Int), ((i + 2 * (h + 1) : Nat) : Int)⟩] := by
  have : best l i (h + 1) = h + 1 := by simp only [best, hb]; rfl
  unfold push
  rw [this, if_neg (by omega)]
theorem push_len (l : List Int) (i h : Nat) (acc : List S35) : (push l i h acc).length ≤ acc.length + 1 := by
  unfold push
  split
  · omega
  · rw [List.length_append]; simp
theorem seg_len (l : List Int) (i h : Nat) (hh : i + 2 * h ≤ l.length) : (seg l i h).length = 2 * h := by
  unfold seg
  rw [List.length_drop, List.length_take]
  omega
theorem runs_l1 (l : List Int) (hl : l.length ≤ 64) (i : Nat) (hi : i < l.length) (acc : List S35) (ha : acc.length ≤ i) (r : List S35 × Int) : ∀ h : Nat, i + 2 * h ≤ l.length → Ev (fun k => double_Runs.l0 k l (push l i h acc) (l.length : Int) ((i + 1 : Nat) : Int)) r → Ev (fun k => double_Runs.l1 k l acc (i : Int) (h : Int) (l.length : Int) (i : Int)) r := by
  intro h
  induction h with
  | zero =>
    intro _ hc
    refine Ev.step (fun k => by rw [double_Runs.l1]) (Ev.ifn (by omega) ?_)
    rw [w64s (by omega)]
    exact hc
  | succ h ih =>
    intro hh hc
    have e2 : wrap64 ((i : Int) + wrap64 (2 * ((h + 1 : Nat) : Int))) = ((i + 2 * (h + 1) : Nat) : Int) := by rw [w64 (n := 2 * ((h + 1 : Nat) : Int)) (by omega), w64 (by omega)]; omega
    refine Ev.step (fun k => by rw [double_Runs.l1]) (Ev.ifp (by omega) (Ev.ifp (by omega) ?_))
    rw [e2]
    refine Ev.ifp (by omega) (Ev.ifp (by omega) ?_)
    rw [Int.toNat_natCast, Int.toNat_natCast]
    refine Ev.bind (a := halfB (seg l i (h + 1))) (twice_ev _ (by rw [List.length_drop, List.length_take]; omega)) ?_
    rcases hb : halfB (seg l i (h + 1)) with _ | _
    · rw [push_no hb] at hc
      refine Ev.ifn (by decide) ?_
      rw [show wrap64 (((h + 1 : Nat) : Int) - 1) = (h : Int) by rw [w64 (by omega)]; omega]
      exact ih (by omega) hc
    · rw [push_yes hb] at hc
      refine Ev.ifp rfl (Ev.ifp (by omega) ?_)
      rw [w64s (by omega)]
      exact hc
theorem runs_l0 (l : List Int) (hl : l.length ≤ 64) : ∀ (d i : Nat) (acc : List S35), l.length - i = d → i ≤ l.length → acc.length ≤ i → Ev (fun k => double_Runs.l0 k l acc (l.length : Int) (i : Int)) (runsV l d i acc, 0) := by
  intro d
  induction d with
  | zero =>
    intro i acc hd hi ha
    refine Ev.step (fun k => by rw [double_Runs.l0]) (Ev.ifn (by omega) (Ev.ret ?_))
    rfl
  | succ d ih =>
    intro i acc hd hi ha
    refine Ev.step (fun k => by rw [double_Runs.l0]) (Ev.ifp (by omega) ?_)
    have e : wrap64 (Int.tdiv (wrap64 ((l.length : Int) - (i : Int))) 2) = (((l.length - i) / 2 : Nat) : Int) := by
      rw [w64 (n := (l.length : Int) - (i : Int)) (by omega), Int.tdiv_eq_ediv_of_nonneg (by omega), w64 (by omega)]
      omega
    rw [e]
    refine runs_l1 l hl i (by omega) acc ha _ _ (by omega) ?_
    simp only [runsV]
    exact ih (i + 1) _ (by omega) (by omega) (by have := push_len l i ((l.length - i) / 2) acc; omega)
/-- What the document's loop keeps: where the longest square ends; 0: there is none. -/
def toOf (l : List Int) (i h : Nat) : Nat := if best l i h = 0 then 0 else i + 2 * best l i h
theorem toOf_no {l : List Int} {i h : Nat} (hb : halfB (seg l i (h + 1)) = false) : toOf l i (h + 1) = toOf l i h := by
  have : best l i (h + 1) = best l i h := by simp only [best, hb]; rfl
  unfold toOf
  rw [this]
theorem toOf_yes {l : List Int} {i h : Nat} (hb : halfB (seg l i (h + 1)) = true) : toOf l i (h + 1) = i + 2 * (h + 1) := by
  have : best l i (h + 1) = h + 1 := by simp only [best, hb]; rfl
  unfold toOf
  rw [this, if_neg (by omega)]
theorem refRuns_l1 (l : List Int) (hl : l.length ≤ 64) (hm : ∀ x ∈ l, letterB x = true) (i : Nat) (hi : i < l.length) (acc : List S35) (ha : acc.length ≤ i) (r : List S35 × Int)
    (hc : Ev (fun k => cognateref15_Runs.l0 k l (push l i ((l.length - i) / 2) acc) ((i + 1 : Nat) : Int)) r) : ∀ (d q : Nat), l.length + 1 - q = d → q ≤ l.length + 1 → i + 2 ≤ q → Ev (fun k => cognateref15_Runs.l1 k l acc (i : Int) ((toOf l i ((q - 1 - i) / 2) : Nat) : Int) (q : Int)) r := by
  intro d
  induction d with
  | zero =>
    intro q hd hq hq2
    obtain rfl : q = l.length + 1 := by omega
    refine Ev.step (fun k => by rw [cognateref15_Runs.l1]) (Ev.ifn (by omega) ?_)
    rw [show l.length + 1 - 1 - i = l.length - i by omega]
    unfold push at hc
    unfold toOf
    by_cases hb : best l i ((l.length - i) / 2) = 0
    · rw [if_pos hb] at hc ⊢
      refine Ev.ifn (by omega) ?_
      rw [w64s (by omega)]
      exact hc
    · rw [if_neg hb] at hc ⊢
      refine Ev.ifp (by omega) (Ev.ifp (by omega) ?_)
      rw [w64s (by omega)]
      exact hc
  | succ d ih =>
    intro q hd hq hq2
    refine Ev.step (fun k => by rw [cognateref15_Runs.l1]) (Ev.ifp (by omega) (Ev.ifp (by omega) (Ev.ifp (by omega) ?_)))
    rw [Int.toNat_natCast, Int.toNat_natCast]
    refine Ev.someb (a := halfB ((l.take q).drop i)) (fun _ => square_eq _ (by rw [List.length_drop, List.length_take]; omega) (fun x hx => hm x (List.mem_of_mem_take (List.mem_of_mem_drop hx)))) ?_
    have hlen : ((l.take q).drop i).length = q - i := by rw [List.length_drop, List.length_take]; omega
    have ihq := ih (q + 1) (by omega) (by omega) (by omega)
    rw [show q + 1 - 1 - i = q - i by omega] at ihq
    rw [w64s (by omega)]
    by_cases ev : (q - i) % 2 = 0
    · obtain ⟨n, hn⟩ : ∃ n, q = i + 2 * (n + 1) := ⟨(q - i) / 2 - 1, by omega⟩
      have h1 : (q - i) / 2 = n + 1 := by omega
      have h2 : (q - 1 - i) / 2 = n := by omega
      rw [h1] at ihq
      rw [h2]
      have hs : (l.take q).drop i = seg l i (n + 1) := by rw [hn]; rfl
      rw [hs]
      rcases hb : halfB (seg l i (n + 1)) with _ | _
      · refine Ev.ifn (by decide) ?_
        rw [toOf_no hb] at ihq
        exact ihq
      · refine Ev.ifp rfl ?_
        rw [toOf_yes hb, ← hn] at ihq
        exact ihq
    · have hb : halfB ((l.take q).drop i) = false := by
        unfold halfB
        rw [hlen, decide_eq_false ev, Bool.false_and]
      rw [hb]
      refine Ev.ifn (by decide) ?_
      rw [show (q - i) / 2 = (q - 1 - i) / 2 by omega] at ihq
      exact ihq
theorem refRuns_l0 (l : List Int) (hl : l.length ≤ 64) (hm : ∀ x ∈ l, letterB x = true) : ∀ (d i : Nat) (acc : List S35), l.length - i = d → i ≤ l.length → acc.length ≤ i → Ev (fun k => cognateref15_Runs.l0 k l acc (i : Int)) (runsV l d i acc, 0) := by
  intro d
  induction d with
  | zero =>
    intro i acc hd hi ha
    refine Ev.step (fun k => by rw [cognateref15_Runs.l0]) (Ev.ifn (by omega) (Ev.ret ?_))
    rfl
  | succ d ih =>
    intro i acc hd hi ha
    refine Ev.step (fun k => by rw [cognateref15_Runs.l0]) (Ev.ifp (by omega) ?_)
    rw [show wrap64 ((i : Int) + 2) = ((i + 2 : Nat) : Int) by rw [w64 (by omega)]; omega]
    have h := refRuns_l1 l hl hm i (by omega) acc ha (runsV l (d + 1) i acc, 0) (by
      simp only [runsV]
      exact ih (i + 1) _ (by omega) (by omega) (by have := push_len l i ((l.length - i) / 2) acc; omega)) (l.length + 1 - (i + 2)) (i + 2) rfl (by omega) (by omega)
    rw [show (i + 2 - 1 - i) / 2 = 0 by omega] at h
    exact h
/-- What stands twice in a word, or the error. -/
def runsOf (F : List ByteArray) (L : List S53) (s : ByteArray) : List S35 × Int := if (lettersV F L s).2 = 0 then (runsV (lettersV F L s).1 (lettersV F L s).1.length 0 [], 0) else ([], (lettersV F L s).2)
theorem runs_ev (F : List ByteArray) (L : List S53) (s : ByteArray) : Ev (fun k => double_Runs.f k F L s) (runsOf F L s) := by
  unfold runsOf
  refine Ev.someb (fun _ => letters_eq F L s) ?_
  by_cases h : (lettersV F L s).2 = 0
  · rw [if_pos h]
    exact Ev.ifp h (runs_l0 _ (lettersV_len F L s) _ 0 [] (by omega) (by omega) (by simp))
  · rw [if_neg h]
    exact Ev.ifn h (Ev.now _)
theorem refRuns_ev (F : List ByteArray) (L : List S53) (s : ByteArray) : Ev (fun k => cognateref15_Runs.f k F L s) (runsOf F L s) := by
  unfold runsOf
  refine Ev.bind (refLetters_ev F L s) ?_
  by_cases h : (lettersV F L s).2 = 0
  · rw [if_pos h]
    exact Ev.ifp h (refRuns_l0 _ (lettersV_len F L s) (lettersV_letter F L s) _ 0 [] (by omega) (by omega) (by simp))
  · rw [if_neg h]
    exact Ev.ifn h (Ev.now _)
/-! ### Period -/
def perB (l : List Int) (p : Nat) : Bool := decide (l.drop p = l.take (l.length - p))
def perV (l : List Int) : Nat → Nat → Nat
  | 0, p => p
  | d + 1, p => if perB l p = true then p else perV l d (p + 1)
theorem per_l0 (l : List Int) (hl : l.length ≤ 64) : ∀ (d p : Nat), l.length - p = d → p ≤ l.length → 1 ≤ p → Ev (fun k => double_Period.l0 k l (l.length : Int) (p : Int)) (((perV l d p : Nat) : Int), 0) := by
  intro d
  induction d with
  | zero =>
    intro p hd hp h1
    obtain rfl : p = l.length := by omega
    refine Ev.step (fun k => by rw [double_Period.l0]) (Ev.ifn (by omega) (Ev.ret ?_))
    rfl
  | succ d ih =>
    intro p hd hp h1
    have e : wrap64 ((l.length : Int) - (p : Int)) = ((l.length - p : Nat) : Int) := by rw [w64 (by omega)]; omega
    refine Ev.step (fun k => by rw [double_Period.l0]) (Ev.ifp (by omega) (Ev.ifp (by omega) (Ev.ifp (by omega) (Ev.ifp (by omega) ?_))))
    rw [e, Int.toNat_natCast, Int.toNat_natCast]
    refine Ev.ifp (by omega) (Ev.ifp (by omega) (Ev.bind (a := perB l p) (equal_ev _ _ (by rw [List.length_drop]; omega)) ?_))
    simp only [perV]
    rcases hb : perB l p with _ | _
    · refine Ev.ifn (by decide) ?_
      rw [w64s (by omega), if_neg (by decide)]
      exact ih (p + 1) (by omega) (by omega) (by omega)
    · exact Ev.ifp rfl (Ev.ret (by rw [if_pos rfl]))
theorem perB_iff (l : List Int) (p : Nat) (hp : p ≤ l.length) : perB l p = true ↔ ∀ q : Nat, p ≤ q → q < l.length → rd l (q : Int) = rd l ((q - p : Nat) : Int) := by
  unfold perB
  rw [decide_eq_true_eq]
  constructor
  · intro h q h1 h2
    rw [rdn l q h2, rdn l (q - p) (by omega)]
    have h3 : (l.drop p)[q - p]? = (l.take (l.length - p))[q - p]? := by rw [h]
    rw [List.getElem?_drop, List.getElem?_take, if_pos (by omega), show p + (q - p) = q by omega, List.getElem?_eq_getElem h2, List.getElem?_eq_getElem (show q - p < l.length by omega)] at h3
    exact Option.some.inj h3
  · intro h
    refine List.ext_getElem (by rw [List.length_drop, List.length_take]; omega) (fun j h1 h2 => ?_)
    rw [List.length_drop] at h1
    rw [List.getElem_drop, List.getElem_take]
    have h3 := h (p + j) (by omega) (by omega)
    rw [rdn l (p + j) (by omega), show p + j - p = j by omega, rdn l j (by omega)] at h3
    exact h3
theorem refPer_l1 (l : List Int) (hl : l.length ≤ 64) (p : Nat) (hp : p ≤ l.length) (r : Int × Int) (hyes : perB l p = true → r = ((p : Int), 0)) (hno : perB l p = false → Ev (fun k => cognateref15_Period.l0 k l ((p + 1 : Nat) : Int)) r) :
    ∀ (d j : Nat) (ok : Bool), l.length - j = d → j ≤ l.length → p ≤ j → (ok = true ↔ ∀ q : Nat, p ≤ q → q < j → rd l (q : Int) = rd l ((q - p : Nat) : Int)) → Ev (fun k => cognateref15_Period.l1 k l (p : Int) ok (j : Int)) r := by
  intro d
  induction d with
  | zero =>
    intro j ok hd hj hpj hok
    obtain rfl : j = l.length := by omega
    rw [← perB_iff l p hp] at hok
    refine Ev.step (fun k => by rw [cognateref15_Period.l1]) (Ev.ifn (by omega) ?_)
    rcases hb : perB l p with _ | _
    · refine Ev.ifn (fun h => by rw [hok.1 h] at hb; cases hb) ?_
      rw [w64s (by omega)]
      exact hno hb
    · exact Ev.ifp (hok.2 hb) (Ev.ret (hyes hb).symm)
  | succ d ih =>
    intro j ok hd hj hpj hok
    refine Ev.step (fun k => by rw [cognateref15_Period.l1]) (Ev.ifp (by omega) ?_)
    have e : wrap64 ((j : Int) - (p : Int)) = ((j - p : Nat) : Int) := by rw [w64 (by omega)]; omega
    cases ok with
    | true =>
      refine Ev.ifp rfl (Ev.ifp (by omega) ?_)
      rw [e]
      refine Ev.ifp (by omega) (Ev.ifp (by omega) ?_)
      rw [w64s (by omega)]
      refine ih (j + 1) _ (by omega) (by omega) (by omega) ?_
      rw [beq_iff_eq]
      constructor
      · intro h q h1 h2
        rcases Nat.lt_or_ge q j with h3 | h3
        · exact hok.1 rfl q h1 h3
        · obtain rfl : q = j := by omega
          exact h
      · intro h
        exact h j hpj (by omega)
    | false =>
      refine Ev.ifn (by decide) ?_
      rw [w64s (by omega)]
      refine ih (j + 1) false (by omega) (by omega) (by omega) ?_
      constructor
      · intro h; cases h
      · intro h
        exact hok.2 (fun q h1 h2 => h q h1 (by omega))
theorem refPer_l0 (l : List Int) (hl : l.length ≤ 64) : ∀ (d p : Nat), l.length - p = d → p ≤ l.length → 1 ≤ p → Ev (fun k => cognateref15_Period.l0 k l (p : Int)) (((perV l d p : Nat) : Int), 0) := by
  intro d
  induction d with
  | zero =>
    intro p hd hp h1
    refine Ev.step (fun k => by rw [cognateref15_Period.l0]) ?_
    obtain rfl : p = l.length := by omega
    refine refPer_l1 l hl l.length hp _ (fun _ => rfl) (fun h => ?_) _ _ true rfl hp (Nat.le_refl _) ⟨fun _ q h1 h2 => by omega, fun _ => rfl⟩
    have : perB l l.length = true := (perB_iff l l.length hp).2 (fun q h1 h2 => by omega)
    rw [this] at h
    cases h
  | succ d ih =>
    intro p hd hp h1
    refine Ev.step (fun k => by rw [cognateref15_Period.l0]) ?_
    refine refPer_l1 l hl p hp _ (fun h => ?_) (fun h => ?_) _ _ true rfl hp (Nat.le_refl _) ⟨fun _ q h1 h2 => by omega, fun _ => rfl⟩
    · simp only [perV, h, if_true]
    · have e : perV l (d + 1) p = perV l d (p + 1) := by simp only [perV, h]; rfl
      rw [e]
      exact ih (p + 1) (by omega) (by omega) (by omega)
/-- A row's period. -/
def periodV (l : List Int) : Nat := if l.length = 0 then 0 else perV l (l.length - 1) 1
def periodOf (F : List ByteArray) (L : List S53) (s : ByteArray) : Int × Int := if (lettersV F L s).2 = 0 then (((periodV (lettersV F L s).1 : Nat) : Int), 0) else (0, (lettersV F L s).2)
theorem period_ev (F : List ByteArray) (L : List S53) (s : ByteArray) : Ev (fun k => double_Period.f k F L s) (periodOf F L s) := by
  unfold periodOf
  refine Ev.someb (fun _ => letters_eq F L s) ?_
  have hl := lettersV_len F L s
  by_cases h : (lettersV F L s).2 = 0
  · rw [if_pos h]
    refine Ev.ifp h ?_
    unfold periodV
    by_cases h0 : (lettersV F L s).1.length = 0
    · rw [if_pos h0]
      refine Ev.step (fun k => by rw [double_Period.l0]) (Ev.ifn (by omega) (Ev.ret ?_))
      rw [h0]
    · rw [if_neg h0]
      refine Ev.step (fun k => by rw [double_Period.l0]) (Ev.ifp (by omega) (Ev.ifn (by omega) ?_))
      rw [show wrap64 ((0 : Int) + 1) = ((1 : Nat) : Int) by rw [w64 (by omega)]; rfl]
      exact per_l0 _ hl _ 1 rfl (by omega) (by omega)
  · rw [if_neg h]
    exact Ev.ifn h (Ev.now _)
theorem refPeriod_ev (F : List ByteArray) (L : List S53) (s : ByteArray) : Ev (fun k => cognateref15_Period.f k F L s) (periodOf F L s) := by
  unfold periodOf
  refine Ev.bind (refLetters_ev F L s) ?_
  have hl := lettersV_len F L s
  by_cases h : (lettersV F L s).2 = 0
  · rw [if_pos h]
    refine Ev.ifp h (Ev.step (fun k => by rw [cognateref15_Period.j0]) ?_)
    unfold periodV
    by_cases h0 : (lettersV F L s).1.length = 0
    · rw [if_pos h0]
      exact Ev.ifp (by simp [h0]) (Ev.ret (by rw [h]; rfl))
    · rw [if_neg h0]
      refine Ev.ifn (by simpa using h0) ?_
      exact refPer_l0 _ hl _ 1 rfl (by omega) (by omega)
  · rw [if_neg h]
    exact Ev.ifn h (Ev.step (fun k => by rw [cognateref15_Period.j0]) (Ev.ifp rfl (Ev.now _)))
/-! ### SameSpans -/
theorem spans_l0 (a : List S35) (ha : a.length ≤ 1000000) : ∀ (d i : Nat), a.length - i = d → i ≤ a.length → Ev (fun k => cognateref03_SameSpans.l0 k a a (i : Int)) true := by
  intro d
  induction d with
  | zero =>
    intro i hd hi
    exact Ev.step (fun k => by rw [cognateref03_SameSpans.l0]) (Ev.ifn (by omega) (Ev.now _))
  | succ d ih =>
    intro i hd hi
    refine Ev.step (fun k => by rw [cognateref03_SameSpans.l0]) (Ev.ifp (by omega) (Ev.ifp (by omega) (Ev.ifp (by omega) (Ev.ifn (by simp) ?_))))
    rw [w64s (by omega)]
    exact ih (i + 1) (by omega) (by omega)
theorem spans_ev (a : List S35) (ha : a.length ≤ 1000000) : Ev (fun k => cognateref03_SameSpans.f k a a) true :=
  Ev.ifp rfl (spans_l0 a ha a.length 0 (by omega) (by omega))
theorem runsV_len (l : List Int) : ∀ (d i : Nat) (acc : List S35), acc.length ≤ i → (runsV l d i acc).length ≤ i + d
  | 0, i, acc, h => by simp only [runsV]; omega
  | d + 1, i, acc, h => by
    simp only [runsV]
    have := runsV_len l d (i + 1) (push l i ((l.length - i) / 2) acc) (by have := push_len l i ((l.length - i) / 2) acc; omega)
    omega
theorem runsOf_len (F : List ByteArray) (L : List S53) (s : ByteArray) : (runsOf F L s).1.length ≤ 64 := by
  unfold runsOf
  split
  · have := runsV_len (lettersV F L s).1 (lettersV F L s).1.length 0 [] (by simp)
    have := lettersV_len F L s
    simp only
    omega
  · simp
/-! ### the document's example -/
theorem awake_ev : Ev (fun k => cognatelaw15_awake.f k) true := by
  refine Ev.someb (fun _ => rfl) ?_
  refine Ev.bind (a := ((⟨#[98, 97, 98, 97, 116]⟩ : ByteArray), 0)) ?_ (Ev.ifp rfl (Ev.ret (by simp only [ByteArray.toList_eq]; rfl)))
  have hl : lettersV ([(⟨#[118]⟩ : ByteArray)] : List ByteArray) ([(⟨97, 1, 0⟩ : S53), (⟨98, 0, 0⟩ : S53), (⟨116, 0, 0⟩ : S53)] : List (S53)) (⟨#[98, 97, 116]⟩ : ByteArray) = ([98, 97, 116], 0) := by kernel_rfl
  refine Ev.someb (fun _ => letters_eq _ _ _) ?_
  rw [hl]
  refine Ev.ifp rfl (Ev.ifn (by decide) (Ev.step (fun k => by rw [double_Front.j0]) (Ev.ifn (by decide) (Ev.ifn (by decide) ?_))))
  refine Ev.someb (a := (⟨#[98, 97, 98, 97, 116]⟩ : ByteArray)) (fun _ => by kernel_rfl) (Ev.now _)
end Go.Proofs.YtjnikjnkmcbjfaaDoor.X
