/- The plain law of alignments: least costs, the first alignment, how many; symmetric, 0 just at equals, no more than by way of a third. No program in sight. -/
import Derived.IntWalk
namespace Go.Proofs.YtjnikjnkmcbjfabDoor.X
/-- The least cost of what is left of two words: `d` is what a letter over a letter costs. -/
def cst (d : Int → Int → Int) : List Int → List Int → Int
  | [], [] => 0
  | _ :: xs, [] => 5 + cst d xs []
  | [], _ :: ys => 5 + cst d [] ys
  | x :: xs, y :: ys => min (min (d x y + cst d xs ys) (5 + cst d xs (y :: ys))) (5 + cst d (x :: xs) ys)
termination_by x y => x.length + y.length
theorem cst_nn (d : Int → Int → Int) : cst d [] [] = 0 := by rw [cst]
theorem cst_cn (d : Int → Int → Int) (x : Int) (xs : List Int) : cst d (x :: xs) [] = 5 + cst d xs [] := by rw [cst]
theorem cst_nc (d : Int → Int → Int) (y : Int) (ys : List Int) : cst d [] (y :: ys) = 5 + cst d [] ys := by rw [cst]
theorem cst_cc (d : Int → Int → Int) (x y : Int) (xs ys : List Int) : cst d (x :: xs) (y :: ys) = min (min (d x y + cst d xs ys) (5 + cst d xs (y :: ys))) (5 + cst d (x :: xs) ys) := by rw [cst]
theorem cst_both (d : Int → Int → Int) (x y : Int) (xs ys : List Int) : cst d (x :: xs) (y :: ys) ≤ d x y + cst d xs ys := by rw [cst_cc]; omega
theorem cst_left (d : Int → Int → Int) (x : Int) (xs ys : List Int) : cst d (x :: xs) ys ≤ 5 + cst d xs ys := by
  cases ys with
  | nil => rw [cst_cn]; omega
  | cons y ys => rw [cst_cc]; omega
theorem cst_right (d : Int → Int → Int) (y : Int) (xs ys : List Int) : cst d xs (y :: ys) ≤ 5 + cst d xs ys := by
  cases xs with
  | nil => rw [cst_nc]; omega
  | cons x xs => rw [cst_cc]; omega
theorem cst_nonneg (d : Int → Int → Int) (hd : ∀ x y, 0 ≤ d x y) : ∀ (n : Nat) (xs ys : List Int), xs.length + ys.length ≤ n → 0 ≤ cst d xs ys
  | n, [], [], _ => by rw [cst_nn]; omega
  | 0, x :: xs, ys, h => by simp at h
  | 0, [], y :: ys, h => by simp at h
  | n + 1, x :: xs, [], h => by
    have := cst_nonneg d hd n xs [] (by simp at h ⊢; omega)
    rw [cst_cn]; omega
  | n + 1, [], y :: ys, h => by
    have := cst_nonneg d hd n [] ys (by simp at h ⊢; omega)
    rw [cst_nc]; omega
  | n + 1, x :: xs, y :: ys, h => by
    simp at h
    have h1 := cst_nonneg d hd n xs ys (by omega)
    have h2 := cst_nonneg d hd n xs (y :: ys) (by simp; omega)
    have h3 := cst_nonneg d hd n (x :: xs) ys (by simp; omega)
    have h4 := hd x y
    rw [cst_cc]; omega
theorem cst_ge (d : Int → Int → Int) (hd : ∀ x y, 0 ≤ d x y) (xs ys : List Int) : 0 ≤ cst d xs ys := cst_nonneg d hd _ xs ys (Nat.le_refl _)
theorem cst_le (d : Int → Int → Int) : ∀ (xs ys : List Int), cst d xs ys ≤ 5 * (xs.length + ys.length)
  | [], [] => by rw [cst_nn]; simp
  | x :: xs, ys => by
    have h1 := cst_left d x xs ys
    have h2 := cst_le d xs ys
    simp only [List.length_cons]; omega
  | [], y :: ys => by
    have h1 := cst_right d y [] ys
    have h2 := cst_le d [] ys
    simp only [List.length_cons]; omega
/-- Which step is the least. -/
theorem cst_cases (d : Int → Int → Int) (xs ys : List Int) : (xs = [] ∧ ys = []) ∨ (∃ x x', xs = x :: x' ∧ cst d xs ys = 5 + cst d x' ys) ∨ (∃ y y', ys = y :: y' ∧ cst d xs ys = 5 + cst d xs y') ∨ (∃ x x' y y', xs = x :: x' ∧ ys = y :: y' ∧ cst d xs ys = d x y + cst d x' y') := by
  cases xs with
  | nil =>
    cases ys with
    | nil => exact Or.inl ⟨rfl, rfl⟩
    | cons y ys => exact Or.inr (Or.inr (Or.inl ⟨y, ys, rfl, cst_nc d y ys⟩))
  | cons x xs =>
    cases ys with
    | nil => exact Or.inr (Or.inl ⟨x, xs, rfl, cst_cn d x xs⟩)
    | cons y ys =>
      have h := cst_cc d x y xs ys
      by_cases h1 : cst d (x :: xs) (y :: ys) = 5 + cst d xs (y :: ys)
      · exact Or.inr (Or.inl ⟨x, xs, rfl, h1⟩)
      · by_cases h2 : cst d (x :: xs) (y :: ys) = 5 + cst d (x :: xs) ys
        · exact Or.inr (Or.inr (Or.inl ⟨y, ys, rfl, h2⟩))
        · exact Or.inr (Or.inr (Or.inr ⟨x, xs, y, ys, rfl, rfl, by omega⟩))
theorem cst_tri (d : Int → Int → Int) (hd : ∀ x y, 0 ≤ d x y) (P : Int → Prop) (ht : ∀ x y z, P x → P y → P z → d x z ≤ d x y + d y z) : ∀ (n : Nat) (xs ys zs : List Int), xs.length + ys.length + zs.length ≤ n → (∀ x ∈ xs, P x) → (∀ y ∈ ys, P y) → (∀ z ∈ zs, P z) → cst d xs zs ≤ cst d xs ys + cst d ys zs := by
  intro n
  induction n with
  | zero =>
    intro xs ys zs h px py pz
    obtain rfl : xs = [] := List.length_eq_zero_iff.1 (by omega)
    obtain rfl : ys = [] := List.length_eq_zero_iff.1 (by omega)
    obtain rfl : zs = [] := List.length_eq_zero_iff.1 (by omega)
    rw [cst_nn]; omega
  | succ n ih =>
    intro xs ys zs h px py pz
    have tl : ∀ {u : Int} {us : List Int}, (∀ v ∈ u :: us, P v) → ∀ v ∈ us, P v := fun h v hv => h v (List.mem_cons_of_mem _ hv)
    have hdp : ∀ {u : Int} {us : List Int}, (∀ v ∈ u :: us, P v) → P u := fun h => h _ (List.mem_cons_self ..)
    have A := cst_cases d xs ys
    have B := cst_cases d ys zs
    rcases A with ⟨rfl, rfl⟩ | ⟨x, x', rfl, e⟩ | A
    · have := cst_ge d hd [] []; omega
    · have h1 := cst_left d x x' zs
      have h2 := ih x' ys zs (by simp only [List.length_cons] at h; omega) (tl px) py pz
      omega
    · rcases B with ⟨rfl, rfl⟩ | B | ⟨z, z', rfl, e⟩ | B
      · have := cst_nn d; omega
      · obtain ⟨y, y', rfl, f⟩ := B
        rcases A with ⟨y2, y2', q, e⟩ | ⟨x, x', y2, y2', rfl, q, e⟩
        · obtain ⟨rfl, rfl⟩ := List.cons.inj q
          have h2 := ih xs y' zs (by simp only [List.length_cons] at h; omega) px (tl py) pz
          omega
        · obtain ⟨rfl, rfl⟩ := List.cons.inj q
          have h1 := cst_left d x x' zs
          have h2 := ih x' y' zs (by simp only [List.length_cons] at h; omega) (tl px) (tl py) pz
          have h3 := hd x y
          omega
      · have h1 := cst_right d z xs z'
        have h2 := ih xs ys z' (by simp only [List.length_cons] at h; omega) px py (tl pz)
        omega
      · obtain ⟨y, y', z, z', rfl, rfl, f⟩ := B
        rcases A with ⟨y2, y2', q, e⟩ | ⟨x, x', y2, y2', rfl, q, e⟩
        · obtain ⟨rfl, rfl⟩ := List.cons.inj q
          have h1 := cst_right d z xs z'
          have h2 := ih xs y' z' (by simp only [List.length_cons] at h; omega) px (tl py) (tl pz)
          have h3 := hd y z
          omega
        · obtain ⟨rfl, rfl⟩ := List.cons.inj q
          have h1 := cst_both d x z x' z'
          have h2 := ih x' y' z' (by simp only [List.length_cons] at h; omega) (tl px) (tl py) (tl pz)
          have h3 := ht x y z (hdp px) (hdp py) (hdp pz)
          omega
theorem cst_sym (d : Int → Int → Int) (hs : ∀ x y, d x y = d y x) : ∀ (n : Nat) (xs ys : List Int), xs.length + ys.length ≤ n → cst d xs ys = cst d ys xs
  | n, [], [], _ => rfl
  | 0, x :: xs, ys, h => by simp at h
  | 0, [], y :: ys, h => by simp at h
  | n + 1, x :: xs, [], h => by
    rw [cst_cn, cst_nc, cst_sym d hs n xs [] (by simp at h ⊢; omega)]
  | n + 1, [], y :: ys, h => by
    rw [cst_cn, cst_nc, cst_sym d hs n [] ys (by simp at h ⊢; omega)]
  | n + 1, x :: xs, y :: ys, h => by
    simp at h
    rw [cst_cc, cst_cc, cst_sym d hs n xs ys (by omega), cst_sym d hs n xs (y :: ys) (by simp; omega), cst_sym d hs n (x :: xs) ys (by simp; omega), hs x y]
    omega
theorem cst_self (d : Int → Int → Int) (hd : ∀ x y, 0 ≤ d x y) (h0 : ∀ x, d x x = 0) : ∀ xs : List Int, cst d xs xs = 0
  | [] => cst_nn d
  | x :: xs => by
    have h1 := cst_both d x x xs xs
    have h2 := cst_self d hd h0 xs
    have h3 := h0 x
    have h4 := cst_ge d hd (x :: xs) (x :: xs)
    omega
theorem cst_zero (d : Int → Int → Int) (hd : ∀ x y, 0 ≤ d x y) (h0 : ∀ x y, d x y = 0 → x = y) : ∀ (xs ys : List Int), cst d xs ys = 0 → xs = ys
  | [], [], _ => rfl
  | x :: xs, [], h => by
    have := cst_ge d hd xs []
    rw [cst_cn] at h; omega
  | [], y :: ys, h => by
    have := cst_ge d hd [] ys
    rw [cst_nc] at h; omega
  | x :: xs, y :: ys, h => by
    have h1 := cst_ge d hd xs ys
    have h2 := cst_ge d hd xs (y :: ys)
    have h3 := cst_ge d hd (x :: xs) ys
    have h4 := hd x y
    rw [cst_cc] at h
    rw [h0 x y (by omega), cst_zero d hd h0 xs ys (by omega)]
/-- How many alignments cost the least: at most one more than 2 to the 20. -/
def mny (d : Int → Int → Int) : List Int → List Int → Int
  | [], [] => 1
  | _ :: xs, [] => mny d xs []
  | [], _ :: ys => mny d [] ys
  | x :: xs, y :: ys => min ((if d x y + cst d xs ys = cst d (x :: xs) (y :: ys) then mny d xs ys else 0) + (if 5 + cst d xs (y :: ys) = cst d (x :: xs) (y :: ys) then mny d xs (y :: ys) else 0) + (if 5 + cst d (x :: xs) ys = cst d (x :: xs) (y :: ys) then mny d (x :: xs) ys else 0)) 1048577
termination_by x y => x.length + y.length
theorem mny_nn (d : Int → Int → Int) : mny d [] [] = 1 := by rw [mny]
theorem mny_cn (d : Int → Int → Int) (x : Int) (xs : List Int) : mny d (x :: xs) [] = mny d xs [] := by rw [mny]
theorem mny_nc (d : Int → Int → Int) (y : Int) (ys : List Int) : mny d [] (y :: ys) = mny d [] ys := by rw [mny]
theorem mny_cc (d : Int → Int → Int) (x y : Int) (xs ys : List Int) : mny d (x :: xs) (y :: ys) = min ((if d x y + cst d xs ys = cst d (x :: xs) (y :: ys) then mny d xs ys else 0) + (if 5 + cst d xs (y :: ys) = cst d (x :: xs) (y :: ys) then mny d xs (y :: ys) else 0) + (if 5 + cst d (x :: xs) ys = cst d (x :: xs) (y :: ys) then mny d (x :: xs) ys else 0)) 1048577 := by rw [mny]
theorem mny_in (d : Int → Int → Int) : ∀ (n : Nat) (xs ys : List Int), xs.length + ys.length ≤ n → 1 ≤ mny d xs ys ∧ mny d xs ys ≤ 1048577
  | n, [], [], _ => by rw [mny_nn]; omega
  | 0, x :: xs, ys, h => by simp at h
  | 0, [], y :: ys, h => by simp at h
  | n + 1, x :: xs, [], h => by
    rw [mny_cn]
    exact mny_in d n xs [] (by simp at h ⊢; omega)
  | n + 1, [], y :: ys, h => by
    rw [mny_nc]
    exact mny_in d n [] ys (by simp at h ⊢; omega)
  | n + 1, x :: xs, y :: ys, h => by
    simp only [List.length_cons] at h
    have h1 := mny_in d n xs ys (by omega)
    have h2 := mny_in d n xs (y :: ys) (by simp only [List.length_cons]; omega)
    have h3 := mny_in d n (x :: xs) ys (by simp only [List.length_cons]; omega)
    have hm := cst_cc d x y xs ys
    rw [mny_cc]
    split <;> split <;> split <;> omega
/-- What an alignment costs: a pair's letters, 0: none. -/
def prc (d : Int → Int → Int) (p : Int × Int) : Int := if p.1 = p.2 then 0 else if p.1 = 0 ∨ p.2 = 0 then 5 else d p.1 p.2
def sumA (d : Int → Int → Int) (l : List (Int × Int)) : Int := (l.map (prc d)).sum
def lefts (l : List (Int × Int)) : List Int := (l.map (·.1)).filter (· ≠ 0)
def rights (l : List (Int × Int)) : List Int := (l.map (·.2)).filter (· ≠ 0)
theorem sumA_cons (d : Int → Int → Int) (p : Int × Int) (l : List (Int × Int)) : sumA d (p :: l) = prc d p + sumA d l := by simp [sumA]
theorem sumA_append (d : Int → Int → Int) (a b : List (Int × Int)) : sumA d (a ++ b) = sumA d a + sumA d b := by simp [sumA]
theorem lefts_cons (p : Int × Int) (l : List (Int × Int)) : lefts (p :: l) = if p.1 = 0 then lefts l else p.1 :: lefts l := by
  unfold lefts
  rw [List.map_cons, List.filter_cons]
  by_cases h : p.1 = 0 <;> simp [h]
theorem rights_cons (p : Int × Int) (l : List (Int × Int)) : rights (p :: l) = if p.2 = 0 then rights l else p.2 :: rights l := by
  unfold rights
  rw [List.map_cons, List.filter_cons]
  by_cases h : p.2 = 0 <;> simp [h]
theorem cst_least (d : Int → Int → Int) (h0 : ∀ x, d x x = 0) : ∀ l : List (Int × Int), (∀ p ∈ l, ¬ (p.1 = 0 ∧ p.2 = 0)) → cst d (lefts l) (rights l) ≤ sumA d l
  | [], _ => by simp [lefts, rights, sumA, cst_nn]
  | p :: l, h => by
    have ih := cst_least d h0 l (fun q hq => h q (List.mem_cons_of_mem _ hq))
    have hp := h p (List.mem_cons_self ..)
    rw [lefts_cons, rights_cons, sumA_cons]
    unfold prc
    by_cases h1 : p.1 = 0
    · have h2 : ¬ p.2 = 0 := fun e => hp ⟨h1, e⟩
      rw [if_pos h1, if_neg h2, if_neg (by omega), if_pos (Or.inl h1)]
      have := cst_right d p.2 (lefts l) (rights l)
      omega
    · by_cases h2 : p.2 = 0
      · rw [if_neg h1, if_pos h2, if_neg (by omega), if_pos (Or.inr h2)]
        have := cst_left d p.1 (lefts l) (rights l)
        omega
      · rw [if_neg h1, if_neg h2]
        have h3 := cst_both d p.1 p.2 (lefts l) (rights l)
        by_cases e : p.1 = p.2
        · rw [if_pos e]
          have := h0 p.2
          rw [e] at h3 ⊢
          omega
        · rw [if_neg e, if_neg (by omega)]
          omega
/-- The first alignment of those at the least cost. -/
def fstA (d : Int → Int → Int) : List Int → List Int → List (Int × Int)
  | [], [] => []
  | x :: xs, [] => (x, 0) :: fstA d xs []
  | [], y :: ys => (0, y) :: fstA d [] ys
  | x :: xs, y :: ys => if cst d (x :: xs) (y :: ys) = d x y + cst d xs ys then (x, y) :: fstA d xs ys else if cst d (x :: xs) (y :: ys) = 5 + cst d xs (y :: ys) then (x, 0) :: fstA d xs (y :: ys) else (0, y) :: fstA d (x :: xs) ys
termination_by x y => x.length + y.length
theorem fst_nn (d : Int → Int → Int) : fstA d [] [] = [] := by rw [fstA]
theorem fst_cn (d : Int → Int → Int) (x : Int) (xs : List Int) : fstA d (x :: xs) [] = (x, 0) :: fstA d xs [] := by rw [fstA]
theorem fst_nc (d : Int → Int → Int) (y : Int) (ys : List Int) : fstA d [] (y :: ys) = (0, y) :: fstA d [] ys := by rw [fstA]
theorem fst_cc (d : Int → Int → Int) (x y : Int) (xs ys : List Int) : fstA d (x :: xs) (y :: ys) = if cst d (x :: xs) (y :: ys) = d x y + cst d xs ys then (x, y) :: fstA d xs ys else if cst d (x :: xs) (y :: ys) = 5 + cst d xs (y :: ys) then (x, 0) :: fstA d xs (y :: ys) else (0, y) :: fstA d (x :: xs) ys := by rw [fstA]
theorem fst_ok (d : Int → Int → Int) (h0 : ∀ x, d x x = 0) : ∀ (n : Nat) (xs ys : List Int), xs.length + ys.length ≤ n → (∀ x ∈ xs, x ≠ 0) → (∀ y ∈ ys, y ≠ 0) → lefts (fstA d xs ys) = xs ∧ rights (fstA d xs ys) = ys ∧ sumA d (fstA d xs ys) = cst d xs ys ∧ (fstA d xs ys).length ≤ xs.length + ys.length ∧ ∀ p ∈ fstA d xs ys, ¬ (p.1 = 0 ∧ p.2 = 0) ∧ (p.1 = 0 ∨ p.1 ∈ xs) ∧ (p.2 = 0 ∨ p.2 ∈ ys)
  | n, [], [], _, _, _ => by rw [fst_nn, cst_nn]; simp [lefts, rights, sumA]
  | 0, x :: xs, ys, h, _, _ => by simp at h
  | 0, [], y :: ys, h, _, _ => by simp at h
  | n + 1, x :: xs, [], h, hx, hy => by
    obtain ⟨a, b, c, e, f⟩ := fst_ok d h0 n xs [] (by simp at h ⊢; omega) (fun z hz => hx z (List.mem_cons_of_mem _ hz)) hy
    have h1 := hx x (List.mem_cons_self ..)
    rw [fst_cn, cst_cn, lefts_cons, rights_cons, sumA_cons, if_neg h1, if_pos rfl, a, b, c]
    refine ⟨rfl, rfl, by simp [prc, h1], by simp at e ⊢; omega, ?_⟩
    intro p hp
    rcases List.mem_cons.1 hp with rfl | hp
    · exact ⟨fun h => h1 h.1, Or.inr (List.mem_cons_self ..), Or.inl rfl⟩
    · have := f p hp
      exact ⟨this.1, this.2.1.imp id (List.mem_cons_of_mem _), this.2.2⟩
  | n + 1, [], y :: ys, h, hx, hy => by
    obtain ⟨a, b, c, e, f⟩ := fst_ok d h0 n [] ys (by simp at h ⊢; omega) hx (fun z hz => hy z (List.mem_cons_of_mem _ hz))
    have h1 := hy y (List.mem_cons_self ..)
    rw [fst_nc, cst_nc, lefts_cons, rights_cons, sumA_cons, if_pos rfl, if_neg h1, a, b, c]
    refine ⟨rfl, rfl, by simp [prc, h1, Ne.symm h1], by simp at e ⊢; omega, ?_⟩
    intro p hp
    rcases List.mem_cons.1 hp with rfl | hp
    · exact ⟨fun h => h1 h.2, Or.inl rfl, Or.inr (List.mem_cons_self ..)⟩
    · have := f p hp
      exact ⟨this.1, this.2.1, this.2.2.imp id (List.mem_cons_of_mem _)⟩
  | n + 1, x :: xs, y :: ys, h, hx, hy => by
    have hx1 := hx x (List.mem_cons_self ..)
    have hy1 := hy y (List.mem_cons_self ..)
    have hx2 : ∀ z ∈ xs, z ≠ 0 := fun z hz => hx z (List.mem_cons_of_mem _ hz)
    have hy2 : ∀ z ∈ ys, z ≠ 0 := fun z hz => hy z (List.mem_cons_of_mem _ hz)
    simp only [List.length_cons] at h
    have hm := cst_cc d x y xs ys
    rw [fst_cc]
    by_cases c1 : cst d (x :: xs) (y :: ys) = d x y + cst d xs ys
    · rw [if_pos c1]
      obtain ⟨a, b, c, e, f⟩ := fst_ok d h0 n xs ys (by omega) hx2 hy2
      rw [lefts_cons, rights_cons, sumA_cons, if_neg hx1, if_neg hy1, a, b, c, c1]
      refine ⟨rfl, rfl, ?_, by simp only [List.length_cons]; omega, ?_⟩
      · unfold prc
        by_cases exy : x = y
        · rw [if_pos exy, exy, h0 y]
        · rw [if_neg exy, if_neg (by show ¬ (x = 0 ∨ y = 0); omega)]
      · intro p hp
        rcases List.mem_cons.1 hp with rfl | hp
        · exact ⟨fun h => hx1 h.1, Or.inr (List.mem_cons_self ..), Or.inr (List.mem_cons_self ..)⟩
        · have := f p hp
          exact ⟨this.1, this.2.1.imp id (List.mem_cons_of_mem _), this.2.2.imp id (List.mem_cons_of_mem _)⟩
    · rw [if_neg c1]
      by_cases c2 : cst d (x :: xs) (y :: ys) = 5 + cst d xs (y :: ys)
      · rw [if_pos c2]
        obtain ⟨a, b, c, e, f⟩ := fst_ok d h0 n xs (y :: ys) (by simp only [List.length_cons]; omega) hx2 hy
        rw [lefts_cons, rights_cons, sumA_cons, if_neg hx1, if_pos rfl, a, b, c, c2]
        refine ⟨rfl, rfl, by simp [prc, hx1], by simp only [List.length_cons] at e ⊢; omega, ?_⟩
        intro p hp
        rcases List.mem_cons.1 hp with rfl | hp
        · exact ⟨fun h => hx1 h.1, Or.inr (List.mem_cons_self ..), Or.inl rfl⟩
        · have := f p hp
          exact ⟨this.1, this.2.1.imp id (List.mem_cons_of_mem _), this.2.2⟩
      · rw [if_neg c2]
        obtain ⟨a, b, c, e, f⟩ := fst_ok d h0 n (x :: xs) ys (by simp only [List.length_cons]; omega) hx hy2
        rw [lefts_cons, rights_cons, sumA_cons, if_pos rfl, if_neg hy1, a, b, c]
        refine ⟨rfl, rfl, ?_, by simp only [List.length_cons] at e ⊢; omega, ?_⟩
        · simp only [prc, if_neg (Ne.symm hy1), true_or, if_true]
          omega
        · intro p hp
          rcases List.mem_cons.1 hp with rfl | hp
          · exact ⟨fun h => hy1 h.2, Or.inl rfl, Or.inr (List.mem_cons_self ..)⟩
          · have := f p hp
            exact ⟨this.1, this.2.1, this.2.2.imp id (List.mem_cons_of_mem _)⟩
theorem lefts_rev (l : List (Int × Int)) : lefts l.reverse = (lefts l).reverse := by
  unfold lefts
  rw [List.map_reverse, List.filter_reverse]
theorem rights_rev (l : List (Int × Int)) : rights l.reverse = (rights l).reverse := by
  unfold rights
  rw [List.map_reverse, List.filter_reverse]
theorem cst_rev_le (d : Int → Int → Int) (h0 : ∀ x, d x x = 0) (xs ys : List Int) (hx : ∀ x ∈ xs, x ≠ 0) (hy : ∀ y ∈ ys, y ≠ 0) : cst d xs.reverse ys.reverse ≤ cst d xs ys := by
  obtain ⟨a, b, c, _, f⟩ := fst_ok d h0 _ xs ys (Nat.le_refl _) hx hy
  have h := cst_least d h0 (fstA d xs ys).reverse (fun p hp => (f p (List.mem_reverse.1 hp)).1)
  have e3 : sumA d (fstA d xs ys).reverse = sumA d (fstA d xs ys) := by
    simp [sumA, List.map_reverse, List.sum_reverse]
  rw [lefts_rev, rights_rev, e3, a, b, c] at h
  exact h
theorem cst_rev (d : Int → Int → Int) (h0 : ∀ x, d x x = 0) (xs ys : List Int) (hx : ∀ x ∈ xs, x ≠ 0) (hy : ∀ y ∈ ys, y ≠ 0) : cst d xs.reverse ys.reverse = cst d xs ys := by
  have h1 := cst_rev_le d h0 xs ys hx hy
  have h2 := cst_rev_le d h0 xs.reverse ys.reverse (fun x h => hx x (List.mem_reverse.1 h)) (fun y h => hy y (List.mem_reverse.1 h))
  rw [List.reverse_reverse, List.reverse_reverse] at h2
  omega
end Go.Proofs.YtjnikjnkmcbjfabDoor.X
