/- The plain law of FeatureLeast: what the law's function computes is true. -/
import Derived.Test.YtjnikjnkmcbjfaaDoorPFeat
import Derived.Test.YtjnikjnkmcbjfaaDoorX37
namespace Go.Proofs.YtjnikjnkmcbjfaaDoor.X
open Go.RowKit Go.Proofs.YtjnikjnkmcbjfaaDoorW.PrintWords Go.Proofs.YtjnikjnkmcbjfaaDoorW.PrintLast Go.Proofs.YtjnikjnkmcbjfaaDoorW.PrintMore
/-- Does a mask lie in another one? -/
def Sub (a b : Nat) : Prop := a &&& b = a
instance (a b : Nat) : Decidable (Sub a b) := inferInstanceAs (Decidable (a &&& b = a))
theorem Sub.iff {a b : Nat} : Sub a b ↔ ∀ i, a.testBit i = true → b.testBit i = true := sub_iff a b
theorem Sub.lt {a b n : Nat} (h : Sub a b) (hb : b < 2 ^ n) : a < 2 ^ n := by
  have : a &&& b ≤ b := Nat.and_le_right
  rw [h] at this
  omega
theorem Sub.left (a b : Nat) : Sub (a &&& b) a := Sub.iff.2 fun i h => by rw [Nat.testBit_and, Bool.and_eq_true] at h; exact h.1
theorem Sub.right (a b : Nat) : Sub (a &&& b) b := Sub.iff.2 fun i h => by rw [Nat.testBit_and, Bool.and_eq_true] at h; exact h.2
theorem Sub.trans {a b c : Nat} (h : Sub a b) (k : Sub b c) : Sub a c := Sub.iff.2 fun i hi => Sub.iff.1 k i (Sub.iff.1 h i hi)
theorem Sub.meet {a b c : Nat} (h : Sub a b) (k : Sub a c) : Sub a (b &&& c) := Sub.iff.2 fun i hi => by rw [Nat.testBit_and, Sub.iff.1 h i hi, Sub.iff.1 k i hi]; rfl
theorem Sub.full {a : Nat} (h : a < 2 ^ 24) : Sub a 16777215 := by
  show a &&& 16777215 = a
  rw [show (16777215 : Nat) = 2 ^ 24 - 1 from rfl, Nat.and_two_pow_sub_one_eq_mod, Nat.mod_eq_of_lt h]
theorem Sub.apart {a b x y : Nat} (h : Sub a x) (k : Sub b y) (hd : x &&& y = 0) : a &&& b = 0 := by
  refine Nat.eq_of_testBit_eq fun i => ?_
  rw [Nat.testBit_and, Nat.zero_testBit]
  cases ha : a.testBit i with
  | false => rfl
  | true =>
    cases hb : b.testBit i with
    | false => rfl
    | true => exact absurd ⟨Sub.iff.1 h i ha, Sub.iff.1 k i hb⟩ (and_bit hd i)
/-- A rune is a letter of these signs. -/
def Signs (F : List ByteArray) (L : List S53) (r : Int) (x y : Nat) : Prop := ∃ r0 : Int, ofV F L r = (r0, (x : Int), (y : Int), 0) ∧ x < 2 ^ F.length ∧ y < 2 ^ F.length ∧ x &&& y = 0
theorem of_signs {F : List ByteArray} {L : List S53} (hw : WfL L) (r : Int) (h : (ofV F L r).2.2.2 = 0) : checkB F L = true ∧ ∃ x y : Nat, Signs F L r x y := by
  rcases of_cases F L r with ⟨_, he⟩ | ⟨_, _, he⟩ | ⟨hc, i, hi, _, he⟩
  · rw [he] at h; cases h
  · rw [he] at h; cases h
  · obtain ⟨p, m, e1, e2, hp, hm, hd⟩ := letter_signs hc hw i hi
    exact ⟨hc, p, m, _, by rw [he, e1, e2], hp, hm, hd⟩
theorem leastL_good {F : List ByteArray} {L : List S53} (hw : WfL L) : ∀ (l : List Int) (P M : Nat), P < 2 ^ 24 → M < 2 ^ 24 →
    (∃ e : Int, e ≠ 0 ∧ leastL F L l (P : Int) (M : Int) = (0, 0, e)) ∨
    ∃ p m : Nat, leastL F L l (P : Int) (M : Int) = ((p : Int), (m : Int), 0) ∧ Sub p P ∧ Sub m M ∧ (∀ r ∈ l, ∃ x y : Nat, Signs F L r x y ∧ Sub p x ∧ Sub m y) ∧
      (∀ q n : Nat, Sub q P → Sub n M → (∀ r ∈ l, ∀ x y : Nat, Signs F L r x y → Sub q x ∧ Sub n y) → Sub q p ∧ Sub n m) := by
  intro l
  induction l with
  | nil => exact fun P M _ _ => Or.inr ⟨P, M, rfl, Nat.and_self P, Nat.and_self M, fun r hr => absurd hr (List.not_mem_nil), fun q n h1 h2 _ => ⟨h1, h2⟩⟩
  | cons r l ih =>
    intro P M hP hM
    rw [leastL]
    by_cases h : (ofV F L r).2.2.2 = 0
    · rw [if_pos h]
      obtain ⟨hc, x, y, r0, ho, hx, hy, hd⟩ := of_signs hw r h
      have h24 : 2 ^ F.length ≤ 2 ^ 24 := Nat.pow_le_pow_right (by omega) (check_feats hc).1
      rw [ho]
      simp only
      rw [and_nat P x (by omega) (by omega), and_nat M y (by omega) (by omega)]
      have hp2 : P &&& x < 2 ^ 24 := Nat.lt_of_le_of_lt Nat.and_le_left hP
      have hm2 : M &&& y < 2 ^ 24 := Nat.lt_of_le_of_lt Nat.and_le_left hM
      rcases ih (P &&& x) (M &&& y) hp2 hm2 with he | ⟨p, m, h1, h2, h3, h4, h5⟩
      · exact Or.inl he
      · refine Or.inr ⟨p, m, h1, h2.trans (Sub.left _ _), h3.trans (Sub.left _ _), fun r' hr => ?_, fun q n hq hn ha => ?_⟩
        · rcases List.mem_cons.1 hr with rfl | hr
          · exact ⟨x, y, ⟨r0, ho, hx, hy, hd⟩, h2.trans (Sub.right _ _), h3.trans (Sub.right _ _)⟩
          · exact h4 r' hr
        · obtain ⟨a1, a2⟩ := ha r (by simp) x y ⟨r0, ho, hx, hy, hd⟩
          exact h5 q n (hq.meet a1) (hn.meet a2) (fun r' hr => ha r' (by simp [hr]))
    · rw [if_neg h]
      exact Or.inl ⟨_, h, rfl⟩
theorem leastV_good {F : List ByteArray} {L : List S53} (hw : WfL L) (l : List Int) :
    (∃ e : Int, e ≠ 0 ∧ leastV F L l = (0, 0, e)) ∨
    (checkB F L = true ∧ l.length ≤ 128 ∧ ∃ p m : Nat, leastV F L l = ((p : Int), (m : Int), 0) ∧ p < 2 ^ F.length ∧ m < 2 ^ F.length ∧ p &&& m = 0 ∧ (∀ r ∈ l, ∃ x y : Nat, Signs F L r x y ∧ Sub p x ∧ Sub m y) ∧
      (∀ q n : Nat, q < 2 ^ 24 → n < 2 ^ 24 → (∀ r ∈ l, ∀ x y : Nat, Signs F L r x y → Sub q x ∧ Sub n y) → Sub q p ∧ Sub n m)) := by
  unfold leastV
  rcases hc : checkB F L with _ | _
  · exact Or.inl ⟨7, by decide, rfl⟩
  · rw [if_pos rfl]
    by_cases h1 : 128 < l.length
    · rw [if_pos h1]
      exact Or.inl ⟨4, by decide, rfl⟩
    · rw [if_neg h1]
      by_cases h2 : l.length = 0
      · rw [if_pos h2]
        exact Or.inl ⟨8, by decide, rfl⟩
      · rw [if_neg h2]
        rcases leastL_good (F := F) hw l 16777215 16777215 (by decide) (by decide) with he | ⟨p, m, h3, h4, h5, h6, h7⟩
        · exact Or.inl he
        · refine Or.inr ⟨rfl, by omega, p, m, h3, ?_, ?_, ?_, h6, fun q n hq hn ha => h7 q n (Sub.full hq) (Sub.full hn) ha⟩
          · obtain ⟨x, y, ⟨_, _, hx, hy, hd⟩, a1, a2⟩ := h6 (l[0]'(by omega)) (List.getElem_mem _)
            exact a1.lt hx
          · obtain ⟨x, y, ⟨_, _, hx, hy, hd⟩, a1, a2⟩ := h6 (l[0]'(by omega)) (List.getElem_mem _)
            exact a2.lt hy
          · obtain ⟨x, y, ⟨_, _, hx, hy, hd⟩, a1, a2⟩ := h6 (l[0]'(by omega)) (List.getElem_mem _)
            exact a1.apart a2 hd
theorem has_signs {F : List ByteArray} {L : List S53} {r : Int} {x y : Nat} (h : Signs F L r x y) (hF : F.length ≤ 24) (p m : Nat) (hp : p < 4294967296) (hm : m < 4294967296) :
    hasV F L r (p : Int) (m : Int) = if withinB F (p : Int) (m : Int) = true then ((decide (Sub p x) && decide (Sub m y)), 0) else (false, 20) := by
  obtain ⟨r0, ho, hx, hy, _⟩ := h
  have h24 : 2 ^ F.length ≤ 2 ^ 24 := Nat.pow_le_pow_right (by omega) hF
  unfold hasV
  rw [ho]
  simp only [if_pos]
  rw [like_nat _ x y p m rfl rfl (by omega) (by omega) hp hm]
  rfl
/-- The letters of a class stand, in their row, among those of a class of fewer features. -/
theorem sub_row (d c : List Int) : ∀ (n i k : Nat), d.length - i = n → i ≤ d.length → k ≤ c.length → d.length ≤ 1000 → c.length ≤ 1000 → (c.drop k).Sublist (d.drop i) → Ev (fun q => cognatelaw02_FeatureLeast.l1 q c d (k : Int) (i : Int)) true := by
  intro n
  induction n with
  | zero =>
    intro i k hn hi hk hd hc hs
    obtain rfl : i = d.length := by omega
    rw [List.drop_length] at hs
    have h0 : c.length - k = 0 := by rw [← List.length_drop, List.eq_nil_of_sublist_nil hs]; rfl
    refine Ev.step (fun k => by rw [cognatelaw02_FeatureLeast.l1]) (Ev.ifn (by omega) (Ev.step (fun k => by rw [cognatelaw02_FeatureLeast.j4]) (Ev.ifn (by decide) (Ev.ret ?_))))
    rw [beq_iff_eq]
    omega
  | succ n ih =>
    intro i k hn hi hk hd hc hs
    have hi2 : i < d.length := by omega
    have g1 : (i : Int) < (d.length : Int) := by omega
    have g2 : 0 ≤ (i : Int) := by omega
    refine Ev.step (fun k => by rw [cognatelaw02_FeatureLeast.l1]) (Ev.ifp g1 (Ev.step (fun k => by rw [cognatelaw02_FeatureLeast.j4]) ?_))
    by_cases hk2 : k < c.length
    · have g3 : (k : Int) < (c.length : Int) := by omega
      have g4 : 0 ≤ (k : Int) := by omega
      have ed : d.drop i = d[i] :: d.drop (i + 1) := List.drop_eq_getElem_cons hi2
      have ec : c.drop k = c[k] :: c.drop (k + 1) := List.drop_eq_getElem_cons hk2
      refine Ev.ifp (decide_eq_true g3) (Ev.ifp g2 (Ev.ifp g1 (Ev.ifp g4 (Ev.ifp g3 ?_))))
      rw [rdn d i hi2, rdn c k hk2]
      have w1 : i ≤ 1000000000000 := by omega
      have w2 : k ≤ 1000000000000 := by omega
      by_cases e : d[i] = c[k]
      · refine Ev.ifp e ?_
        rw [w64s w1, w64s w2]
        refine ih (i + 1) (k + 1) (by omega) (by omega) (by omega) hd hc ?_
        rw [ed, ec, e] at hs
        exact (List.cons_sublist_cons.1 hs)
      · refine Ev.ifn e ?_
        rw [w64s w1]
        refine ih (i + 1) k (by omega) (by omega) hk hd hc ?_
        rw [ed, ec] at hs
        rw [ec]
        rcases List.sublist_cons_iff.1 hs with h | ⟨r, e2, _⟩
        · exact h
        · exact absurd (List.cons.inj e2).1.symm e
    · refine Ev.ifn (by simp only [decide_eq_true_eq]; omega) (Ev.ret ?_)
      rw [beq_iff_eq]
      omega
theorem least_j1 (F : List ByteArray) (L : List S53) (hw : WfL L) (hc : checkB F L = true) (P M : Nat) (hP : P < 4294967296) (hM : M < 4294967296) (p m : Nat) (hp : p < 2 ^ F.length) (hm : m < 2 ^ F.length) (hd : p &&& m = 0) :
    Ev (fun k => cognatelaw02_FeatureLeast.j1 k (P : Int) (M : Int) (p : Int) (m : Int) false F L) true := by
  obtain ⟨hF, _, hL⟩ := check_feats hc
  have h24 : 2 ^ F.length ≤ 2 ^ 24 := Nat.pow_le_pow_right (by omega) hF
  refine Ev.step (fun k => by rw [cognatelaw02_FeatureLeast.j1]) (Ev.ifn (by decide) ?_)
  rw [and_nat p P (by omega) hP, and_nat m M (by omega) hM]
  refine Ev.bind (class_ev _ _ _ _) (Ev.bind (class_ev _ _ _ _) ?_)
  have s1 := Sub.left p P
  have s2 := Sub.left m M
  have w1 : withinB F (p : Int) (m : Int) = true := (within_nat F p m hF (by omega) (by omega)).2 ⟨hp, hm, hd⟩
  have l1 := s1.lt hp
  have l2 := s2.lt hm
  have w2 : withinB F ((p &&& P : Nat) : Int) ((m &&& M : Nat) : Int) = true := (within_nat F _ _ hF (by omega) (by omega)).2 ⟨l1, l2, s1.apart s2 hd⟩
  have e1 : classV F L (p : Int) (m : Int) = ((L.filter (fun x => likeB x (p : Int) (m : Int))).map (·.f0), 0) := by unfold classV; rw [if_pos hc, if_pos w1]
  have e2 : classV F L ((p &&& P : Nat) : Int) ((m &&& M : Nat) : Int) = ((L.filter (fun x => likeB x ((p &&& P : Nat) : Int) ((m &&& M : Nat) : Int))).map (·.f0), 0) := by unfold classV; rw [if_pos hc, if_pos w2]
  have hfil : L.filter (fun x => likeB x (p : Int) (m : Int)) = (L.filter (fun x => likeB x ((p &&& P : Nat) : Int) ((m &&& M : Nat) : Int))).filter (fun x => likeB x (p : Int) (m : Int)) := by
    rw [List.filter_filter]
    refine List.filter_congr fun x hx => ?_
    obtain ⟨j, hj, rfl⟩ := List.getElem_of_mem hx
    obtain ⟨a, b, f1, f2, ha, hb, _⟩ := letter_signs hc hw j hj
    rw [rdL L j hj] at f1 f2
    rw [like_nat _ a b p m f1 f2 (by omega) (by omega) (by omega) (by omega), like_nat _ a b (p &&& P) (m &&& M) f1 f2 (by omega) (by omega) (by omega) (by omega)]
    by_cases h1 : p &&& a = p
    · by_cases h2 : m &&& b = m
      · have h3 : (p &&& P) &&& a = p &&& P := s1.trans h1
        have h4 : (m &&& M) &&& b = m &&& M := s2.trans h2
        simp [h1, h2, h3, h4]
      · simp [h2]
    · simp [h1]
  have hsub : ((L.filter (fun x => likeB x (p : Int) (m : Int))).map (·.f0)).Sublist ((L.filter (fun x => likeB x ((p &&& P : Nat) : Int) ((m &&& M : Nat) : Int))).map (·.f0)) := by
    rw [hfil]
    exact (List.filter_sublist).map _
  have hd2 : ((L.filter (fun x => likeB x ((p &&& P : Nat) : Int) ((m &&& M : Nat) : Int))).map (·.f0)).length ≤ 128 := by
    rw [List.length_map]
    exact Nat.le_trans (List.length_filter_le _ _) hL
  rw [e1, e2]
  obtain ⟨c, hcc⟩ : ∃ c, (L.filter (fun x => likeB x (p : Int) (m : Int))).map (·.f0) = c := ⟨_, rfl⟩
  obtain ⟨d, hdd⟩ : ∃ d, (L.filter (fun x => likeB x ((p &&& P : Nat) : Int) ((m &&& M : Nat) : Int))).map (·.f0) = d := ⟨_, rfl⟩
  rw [hcc, hdd] at hsub
  rw [hdd] at hd2
  rw [hcc, hdd]
  have hle := hsub.length_le
  refine Ev.ifp rfl (Ev.ifp rfl (Ev.step (fun k => by rw [cognatelaw02_FeatureLeast.j2]) (Ev.ifn (by simp only [decide_eq_true_eq]; omega) ?_)))
  exact sub_row d c d.length 0 0 rfl (by omega) (by omega) (by omega) (by omega) (by simpa using hsub)
theorem least_loop (F : List ByteArray) (L : List S53) (hw : WfL L) (hc : checkB F L = true) (l : List Int) (hl : l.length ≤ 128) (P M : Nat) (hP : P < 4294967296) (hM : M < 4294967296) (p m : Nat) (hp : p < 2 ^ F.length) (hm : m < 2 ^ F.length) (hd : p &&& m = 0)
    (h6 : ∀ r ∈ l, ∃ x y : Nat, Signs F L r x y ∧ Sub p x ∧ Sub m y) (h7 : (∀ j : Nat, j < l.length → hasV F L (rd l (j : Int)) (P : Int) (M : Int) = (true, 0)) → P &&& p = P ∧ M &&& m = M) :
    ∀ (d i : Nat) (all : Bool), l.length - i = d → i ≤ l.length → (all = true → ∀ j : Nat, j < i → hasV F L (rd l (j : Int)) (P : Int) (M : Int) = (true, 0)) →
      Ev (fun k => cognatelaw02_FeatureLeast.l0 k l (P : Int) (M : Int) (p : Int) (m : Int) all (i : Int) F L) true := by
  have hF := (check_feats hc).1
  have h24 : 2 ^ F.length ≤ 2 ^ 24 := Nat.pow_le_pow_right (by omega) hF
  intro d
  induction d with
  | zero =>
    intro i all hn hi ha
    obtain rfl : i = l.length := by omega
    refine Ev.step (fun k => by rw [cognatelaw02_FeatureLeast.l0]) (Ev.ifn (by omega) ?_)
    have hgo := least_j1 F L hw hc P M hP hM p m hp hm hd
    cases all with
    | false => exact Ev.ifn (by decide) hgo
    | true =>
      obtain ⟨h8, h9⟩ := h7 (ha rfl)
      refine Ev.ifp rfl ?_
      rw [and_nat P p hP (by omega), and_nat M m hM (by omega), h8, h9]
      refine Ev.ifp rfl ?_
      rw [bne_self_eq_false]
      exact hgo
  | succ d ih =>
    intro i all hn hi ha
    have hi2 : i < l.length := by omega
    have g1 : (i : Int) < (l.length : Int) := by omega
    have g2 : 0 ≤ (i : Int) := by omega
    have w1 : i ≤ 1000000000000 := by omega
    obtain ⟨x, y, hs, s1, s2⟩ := h6 (l[i]) (List.getElem_mem hi2)
    have hone : hasV F L (rd l (i : Int)) (p : Int) (m : Int) = (true, 0) := by
      rw [rdn l i hi2, has_signs hs hF p m (by omega) (by omega), if_pos ((within_nat F p m hF (by omega) (by omega)).2 ⟨hp, hm, hd⟩), decide_eq_true s1, decide_eq_true s2]
      rfl
    refine Ev.step (fun k => by rw [cognatelaw02_FeatureLeast.l0]) (Ev.ifp g1 (Ev.ifp g2 (Ev.someb (fun _ => has_eq _ _ _ _ _) (Ev.someb (fun _ => has_eq _ _ _ _ _) ?_))))
    rw [hone, w64s w1]
    refine Ev.ifp rfl (Ev.ifp rfl ?_)
    cases all with
    | false => exact Ev.ifn (by decide) (ih (i + 1) false (by omega) (by omega) (fun h => by cases h))
    | true =>
      refine Ev.ifp rfl ?_
      by_cases h0 : (hasV F L (rd l (i : Int)) (P : Int) (M : Int)).2 = 0
      · refine Ev.ifp h0 (ih (i + 1) _ (by omega) (by omega) (fun h j hj => ?_))
        rcases Nat.lt_or_ge j i with h1 | h1
        · exact ha rfl j h1
        · obtain rfl : j = i := by omega
          exact Prod.ext h h0
      · exact Ev.ifn h0 (ih (i + 1) false (by omega) (by omega) (fun h => by cases h))
theorem featureLeast_law (F : List ByteArray) (L : List S53) (hw : WfL L) (l : List Int) (P : Int) (hp : (Lit.int .u32 P).wf = true) (M : Int) (hm : (Lit.int .u32 M).wf = true) : ∃ k, cognatelaw02_FeatureLeast.f k F L l P M = some true := by
  refine Ev.rounds (Ev.bind alive_ev (Ev.ifp rfl ?_))
  by_cases hs : (l.length : Int) > 300
  · exact Ev.ifp hs (Ev.now _)
  · refine Ev.ifn hs (Ev.bind (least_ev F L l) ?_)
    obtain ⟨P, rfl, hP⟩ := u32_nat (u32_of_wf hp)
    obtain ⟨M, rfl, hM⟩ := u32_nat (u32_of_wf hm)
    rcases leastV_good (F := F) hw l with ⟨e, e0, he⟩ | ⟨hc, hl, p, m, he, h1, h2, h3, h6, h7⟩
    · rw [he]
      exact Ev.ifn e0 (Ev.ifp rfl (Ev.now _))
    · rw [he]
      refine Ev.ifp rfl (least_loop F L hw hc l hl P M hP hM p m h1 h2 h3 h6 (fun hall => ?_) l.length 0 true rfl (by omega) (fun _ j hj => absurd hj (Nat.not_lt_zero _)))
      have hF := (check_feats hc).1
      have h24 : 2 ^ F.length ≤ 2 ^ 24 := Nat.pow_le_pow_right (by omega) hF
      have key : ∀ r ∈ l, ∀ x y : Nat, Signs F L r x y → withinB F (P : Int) (M : Int) = true ∧ Sub P x ∧ Sub M y := by
        intro r hr x y hsg
        obtain ⟨j, hj, rfl⟩ := List.getElem_of_mem hr
        have h8 := hall j hj
        rw [rdn l j hj, has_signs hsg hF P M hP hM] at h8
        split at h8
        · rename_i hwi
          simp only [Prod.mk.injEq, Bool.and_eq_true, decide_eq_true_eq, and_true] at h8
          exact ⟨hwi, h8.1, h8.2⟩
        · cases h8
      have hne : ∃ r, r ∈ l := by
        cases l with
        | nil =>
          unfold leastV at he
          rw [if_pos hc] at he
          simp at he
        | cons r l => exact ⟨r, by simp⟩
      obtain ⟨r, hr⟩ := hne
      obtain ⟨x, y, hsg, _, _⟩ := h6 r hr
      obtain ⟨hwi, _, _⟩ := key r hr x y hsg
      obtain ⟨b1, b2, _⟩ := (within_nat F P M hF hP hM).1 hwi
      exact h7 P M (by omega) (by omega) (fun r hr x y hsg => (key r hr x y hsg).2)
end Go.Proofs.YtjnikjnkmcbjfaaDoor.X
