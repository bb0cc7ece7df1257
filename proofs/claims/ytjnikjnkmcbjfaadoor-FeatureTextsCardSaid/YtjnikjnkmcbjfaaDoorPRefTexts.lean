/- The plain law: the document's least class, bit, text and what is read of a text are what the program tells. No program in sight. -/
import Derived.Test.YtjnikjnkmcbjfaaDoorPRefA
import Derived.Test.YtjnikjnkmcbjfaaDoorX18
import Derived.Test.YtjnikjnkmcbjfaaDoorX19
import Derived.Test.YtjnikjnkmcbjfaaDoorX27
import Derived.Test.YtjnikjnkmcbjfaaDoorGParse
namespace Go.Proofs.YtjnikjnkmcbjfaaDoor.X
open Go.RowKit Go.Proofs.YtjnikjnkmcbjfaaDoorW.PrintWords Go.Proofs.YtjnikjnkmcbjfaaDoorW.PrintLast Go.Proofs.YtjnikjnkmcbjfaaDoorW.PrintMore
/-! ### Least -/
theorem ofV_at {F : List ByteArray} {L : List S53} (hc : checkB F L = true) {r : Int} (h : 0 ≤ idxR L r) : ofV F L r = ((rd_T53 L (idxR L r)).f0, (rd_T53 L (idxR L r)).f1, (rd_T53 L (idxR L r)).f2, 0) := by
  unfold ofV feature_Of.f
  rw [if_pos hc, if_neg (by omega)]
  rfl
theorem ofV_no {F : List ByteArray} {L : List S53} (hc : checkB F L = true) {r : Int} (h : ¬ 0 ≤ idxR L r) : ofV F L r = (0, 0, 0, 5) := by
  unfold ofV feature_Of.f
  rw [if_pos hc, if_pos (by omega)]
  rfl
theorem idxR_lt (L : List S53) (r : Int) (h : 0 ≤ idxR L r) : idxR L r < (L.length : Int) := by
  rcases idxR_cases L r with ⟨he, _⟩ | ⟨i, hi, he, _, _⟩
  · omega
  · omega
theorem leastL_no {F : List ByteArray} {L : List S53} (hc : checkB F L = true) : ∀ (l : List Int) (p m : Int), (¬ ∀ r ∈ l, 0 ≤ idxR L r) → leastL F L l p m = (0, 0, 5)
  | [], _, _, h => absurd (fun r hr => absurd hr (List.not_mem_nil)) h
  | r :: l, p, m, h => by
    rw [leastL]
    by_cases h1 : 0 ≤ idxR L r
    · rw [ofV_at hc h1]
      simp only [if_pos]
      exact leastL_no hc l _ _ (fun h2 => h (fun x hx => (List.mem_cons.1 hx).elim (fun e => e ▸ h1) (h2 x)))
    · rw [ofV_no hc h1]
      rfl
theorem refLeast_l0 (F : List ByteArray) (L : List S53) (hc : checkB F L = true) (l : List Int) (hl : l.length ≤ 128) (hall : ∀ r ∈ l, 0 ≤ idxR L r) : ∀ (d i : Nat) (p m : Int), l.length - i = d → i ≤ l.length → Ev (fun k => cognateref02_Least.l0 k l p m (i : Int) F L) (leastL F L (l.drop i) p m) := by
  have hL := (check_feats hc).2.2
  intro d
  induction d with
  | zero =>
    intro i p m hd hi
    obtain rfl : i = l.length := by omega
    refine Ev.step (fun k => by rw [cognateref02_Least.l0]) (Ev.ifn (by omega) (Ev.ret ?_))
    rw [List.drop_length]
    rfl
  | succ d ih =>
    intro i p m hd hi
    have hi2 : i < l.length := by omega
    have g1 : (i : Int) < (l.length : Int) := by omega
    have g2 : 0 ≤ (i : Int) := by omega
    have w1 : i ≤ 1000000000000 := by omega
    have he : l.drop i = l[i] :: l.drop (i + 1) := List.drop_eq_getElem_cons hi2
    have h0 := hall (l[i]) (List.getElem_mem hi2)
    refine Ev.step (fun k => by rw [cognateref02_Least.l0]) (Ev.ifp g1 (Ev.ifp g2 (Ev.bind (find_ev F L _ (by omega)) ?_)))
    rw [rdn l i hi2, he, leastL, ofV_at hc h0, w64s w1]
    exact Ev.ifp h0 (Ev.ifp (idxR_lt L _ h0) (ih (i + 1) _ _ (by omega) (by omega)))
theorem full_and (n x : Nat) (hn : n ≤ 24) (hx : x < 2 ^ n) : Go.bits .and .u32 16777215 (x : Int) = Go.bits .and .u32 ((2 ^ n - 1 : Nat) : Int) (x : Int) := by
  have h24 : 2 ^ n ≤ 2 ^ 24 := Nat.pow_le_pow_right (by omega) hn
  have e : (16777215 : Int) = ((2 ^ 24 - 1 : Nat) : Int) := by decide
  rw [e, and_nat _ x (by omega) (by omega), and_nat _ x (by omega) (by omega), Nat.and_comm, Nat.and_two_pow_sub_one_eq_mod, Nat.and_comm (2 ^ n - 1) x, Nat.and_two_pow_sub_one_eq_mod, Nat.mod_eq_of_lt (by omega), Nat.mod_eq_of_lt hx]
theorem refLeast_ev (F : List ByteArray) (L : List S53) (hw : WfL L) (l : List Int) (hl : l.length ≤ 1000000) : Ev (fun k => cognateref02_Least.f k F L l) (leastV F L l) := by
  refine Ev.bind (asked_ev F L [] (by simp)) ?_
  rw [asked_nil]
  unfold leastV
  rcases hc : checkB F L with _ | _
  · exact Ev.ifn (by decide) (Ev.now _)
  · rw [if_pos rfl, if_pos rfl]
    refine Ev.ifp rfl ?_
    obtain ⟨hF, _, hL⟩ := check_feats hc
    by_cases h1 : 128 < l.length
    · rw [if_pos h1]
      exact Ev.ifp (by omega) (Ev.now _)
    · rw [if_neg h1]
      refine Ev.ifn (by omega) (Ev.bind (asked_ev F L l hl) ?_)
      by_cases hall : ∀ r ∈ l, 0 ≤ idxR L r
      · have e : askedV F L l = 0 := by unfold askedV; rw [if_pos hc, if_pos hall]
        rw [e]
        refine Ev.ifp rfl ?_
        by_cases h2 : l.length = 0
        · rw [if_pos h2]
          exact Ev.ifp (by omega) (Ev.now _)
        · rw [if_neg h2]
          refine Ev.ifn (by omega) (Ev.someb (fun _ => all_eq F L hF) (Ev.someb (fun _ => all_eq F L hF) ?_))
          have hgo := refLeast_l0 F L hc l (by omega) hall l.length 0 (((2 ^ F.length - 1 : Nat) : Int)) (((2 ^ F.length - 1 : Nat) : Int)) rfl (by omega)
          rw [List.drop_zero] at hgo
          have hsame : leastL F L l (((2 ^ F.length - 1 : Nat) : Int)) (((2 ^ F.length - 1 : Nat) : Int)) = leastL F L l 16777215 16777215 := by
            cases l with
            | nil => exact absurd rfl h2
            | cons r l =>
              have h0 := hall r (by simp)
              rw [leastL, leastL, ofV_at hc h0]
              obtain ⟨i, hi⟩ : ∃ i : Nat, idxR L r = (i : Int) := ⟨(idxR L r).toNat, by omega⟩
              have hlt := idxR_lt L r h0
              obtain ⟨x, y, e1, e2, hx, hy, _⟩ := letter_signs hc hw i (by omega)
              rw [hi, e1, e2]
              simp only [if_pos]
              rw [full_and F.length x hF hx, full_and F.length y hF hy]
          rw [hsame] at hgo
          exact hgo
      · have e : askedV F L l = 5 := by unfold askedV; rw [if_pos hc, if_neg hall]
        rw [e, leastL_no hc l _ _ hall]
        have h2 : l.length ≠ 0 := fun h => hall (by rw [List.eq_nil_of_length_eq_zero h]; exact fun r hr => absurd hr (List.not_mem_nil))
        rw [if_neg h2]
        exact Ev.ifn (by decide) (Ev.now _)
/-! ### a feature's number -/
theorem named_l0 (F : List ByteArray) (L : List S53) (s : ByteArray) (hF : F.length ≤ 1000) : ∀ (d i : Nat), F.length - i = d → i ≤ F.length → (∀ j : Nat, j < i → (rdOf ByteArray.empty F (j : Int)).data.toList ≠ s.data.toList) → Ev (fun k => cognateref02_named.l0 k s (i : Int) F L) (idxS F s.data.toList) := by
  intro d
  induction d with
  | zero =>
    intro i hd hi hn
    obtain rfl : i = F.length := by omega
    refine Ev.step (fun k => by rw [cognateref02_named.l0]) (Ev.ifn (by omega) (Ev.ret ?_))
    rcases idxS_cases F s.data.toList with ⟨he, _⟩ | ⟨j, hj, _, h2, _⟩
    · exact he.symm
    · exact absurd h2 (hn j hj)
  | succ d ih =>
    intro i hd hi hn
    have g1 : (i : Int) < (F.length : Int) := by omega
    have g2 : 0 ≤ (i : Int) := by omega
    have w1 : i ≤ 1000000000000 := by omega
    refine Ev.step (fun k => by rw [cognateref02_named.l0]) (Ev.ifp g1 (Ev.ifp g2 ?_))
    simp only [ByteArray.toList_eq]
    by_cases he : (rdOf ByteArray.empty F (i : Int)).data.toList = s.data.toList
    · refine Ev.ifp he (Ev.ret ?_)
      rcases idxS_cases F s.data.toList with ⟨_, h1⟩ | ⟨j, hj, h1, h2, h3⟩
      · exact absurd he (h1 i (by omega))
      · rw [h1]
        rcases Nat.lt_trichotomy i j with h4 | h4 | h4
        · exact absurd he (h3 i h4)
        · rw [h4]
        · exact absurd h2 (hn j h4)
    · refine Ev.ifn he ?_
      rw [w64s w1]
      refine ih (i + 1) (by omega) (by omega) (fun j hj => ?_)
      rcases Nat.lt_or_ge j i with h | h
      · exact hn j h
      · obtain rfl : j = i := by omega
        exact he
theorem named_ev (F : List ByteArray) (L : List S53) (s : ByteArray) (hF : F.length ≤ 1000) : Ev (fun k => cognateref02_named.f k F L s) (idxS F s.data.toList) :=
  named_l0 F L s hF F.length 0 (by omega) (by omega) (fun j hj => absurd hj (Nat.not_lt_zero _))
theorem idxS_range (F : List ByteArray) (s : List UInt8) (h : 0 ≤ idxS F s) : ∃ i : Nat, idxS F s = (i : Int) ∧ i < F.length := by
  rcases idxS_cases F s with ⟨he, _⟩ | ⟨i, hi, he, _, _⟩
  · omega
  · exact ⟨i, he, hi⟩
theorem featBit_at {F : List ByteArray} {L : List S53} (hc : checkB F L = true) (s : ByteArray) : featBitV F L s = if idxS F s.data.toList < 0 then (0, 8) else (shl .u32 1 (idxS F s.data.toList), 0) := by
  unfold featBitV
  rw [if_pos hc]
theorem featBit_no {F : List ByteArray} {L : List S53} (hc : checkB F L = false) (s : ByteArray) : featBitV F L s = (0, 7) := by
  unfold featBitV
  rw [hc]
  rfl
theorem refBit_ev (F : List ByteArray) (L : List S53) (s : ByteArray) : Ev (fun k => cognateref02_Bit.f k F L s) (featBitV F L s) := by
  refine Ev.bind (asked_ev F L [] (by simp)) ?_
  rw [asked_nil]
  rcases hc : checkB F L with _ | _
  · rw [featBit_no hc]
    exact Ev.ifn (by decide) (Ev.now _)
  · rw [featBit_at hc]
    have hF := (check_feats hc).1
    refine Ev.ifp rfl (Ev.bind (named_ev F L s (by omega)) ?_)
    by_cases h : idxS F s.data.toList < 0
    · exact Ev.ifp h (Ev.ret (by rw [if_pos h]))
    · obtain ⟨i, hi, hlt⟩ := idxS_range F s.data.toList (by omega)
      have k3 : 0 ≤ (i : Int) ∧ (i : Int) ≤ 18446744073709551615 := by omega
      rw [hi] at h ⊢
      refine Ev.ifn h ?_
      rw [IntWalk.u64_in _ k3]
      exact Ev.ifp k3.1 (Ev.ret (by rw [if_neg h]))
theorem bit_ev (F : List ByteArray) (L : List S53) (s : ByteArray) : Ev (fun k => feature_Bit.f k F L s) (featBitV F L s) := by
  refine Ev.someb (fun _ => rfl) ?_
  rcases hc : checkB F L with _ | _
  · rw [featBit_no hc]
    exact Ev.ifn (by decide) (Ev.now _)
  · rw [featBit_at hc]
    have hF := (check_feats hc).1
    refine Ev.ifp rfl (Ev.bind (index_ev F s (by omega)) ?_)
    by_cases h : idxS F s.data.toList < 0
    · exact Ev.ifp h (Ev.ret (by rw [if_pos h]))
    · exact Ev.ifn h (Ev.ifp (by omega) (Ev.ret (by rw [if_neg h])))
/-! ### Text -/
theorem bit_zero (p i : Nat) (hp : p < 4294967296) (hi : i < 32) : Go.bits .and .u32 (p : Int) (shl .u32 1 (i : Int)) = 0 ↔ p.testBit i = false := by
  have h2 : 2 ^ i < 2 ^ 32 := Nat.pow_lt_pow_right (by omega) hi
  have h3 : 0 < 2 ^ i := Nat.pow_pos (by omega)
  rw [shl_nat i hi, and_nat p _ hp (by omega)]
  constructor
  · intro h
    have h4 : p &&& 2 ^ i = 0 := by omega
    have h5 := congrArg (fun x => Nat.testBit x i) h4
    simp only [Nat.testBit_and, Nat.testBit_two_pow, decide_true, Bool.and_true, Nat.zero_testBit] at h5
    exact h5
  · intro h
    have h4 : p &&& 2 ^ i = 0 := Nat.eq_of_testBit_eq fun j => by
      rw [Nat.testBit_and, Nat.testBit_two_pow, Nat.zero_testBit]
      by_cases e : i = j
      · subst e
        rw [h]
        rfl
      · simp [e]
    rw [h4]
    rfl
theorem of_takeWhile {α : Type} {p : α → Bool} {x : α} : ∀ {l : List α}, x ∈ l.takeWhile p → p x = true
  | [], h => by simp at h
  | a :: l, h => by
    rw [List.takeWhile_cons] at h
    split at h
    · rename_i ha
      rcases List.mem_cons.1 h with rfl | h2
      · exact ha
      · exact of_takeWhile h2
    · simp at h
theorem bytes_push (l m : List UInt8) (f : ByteArray) (h : f.data.toList = m) (c : UInt8) : ((⟨l.toArray⟩ : ByteArray) ++ (⟨#[c]⟩ : ByteArray)) ++ f = ⟨(l ++ c :: m).toArray⟩ := by
  apply ByteArray.ext
  rw [ByteArray.data_append, ByteArray.data_append]
  apply Array.ext'
  simp [h]
theorem bytes_size (l : List UInt8) : (⟨l.toArray⟩ : ByteArray).size = l.length := by
  show l.toArray.size = _
  rw [List.size_toArray]
theorem refText_l0 (F : List ByteArray) (L : List S53) (hc : checkB F L = true) (p m : Nat) (hp : p < 2 ^ 24) (hm : m < 2 ^ 24) (hd : p &&& m = 0) : ∀ (d i : Nat), F.length - i = d → i ≤ F.length →
    Ev (fun k => cognateref02_Text.l0 k (p : Int) (m : Int) ⟨(textL F (p : Int) (m : Int) i).toArray⟩ (i : Int) F L) (⟨(textL F (p : Int) (m : Int) F.length).toArray⟩, 0) := by
  have hF := (check_feats hc).1
  intro d
  induction d with
  | zero =>
    intro i hn hi
    obtain rfl : i = F.length := by omega
    exact Ev.step (fun k => by rw [cognateref02_Text.l0]) (Ev.ifn (by omega) (Ev.now _))
  | succ d ih =>
    intro i hn hi
    have g1 : (i : Int) < (F.length : Int) := by omega
    have g2 : 0 ≤ (i : Int) := by omega
    have w1 : i ≤ 1000000000000 := by omega
    have k3 : 0 ≤ (i : Int) ∧ (i : Int) ≤ 18446744073709551615 := by omega
    have hlen := textL_len F (p : Int) (m : Int) i (fun j hj => named_size (check_name hc j (by omega)).1)
    have hsz := named_size (check_name hc i (by omega)).1
    have hr := ih (i + 1) (by omega) (by omega)
    have b1 := bit_nat p i (by omega) (by omega)
    have b2 := bit_nat m i (by omega) (by omega)
    have z1 := bit_zero p i (by omega) (by omega)
    have z2 := bit_zero m i (by omega) (by omega)
    have s1 : (⟨(textL F (p : Int) (m : Int) i).toArray⟩ : ByteArray).size + 1 ≤ 9223372036854775807 := by rw [bytes_size]; omega
    have s2 : ∀ c : UInt8, ((⟨(textL F (p : Int) (m : Int) i).toArray⟩ : ByteArray) ++ (⟨#[c]⟩ : ByteArray)).size + (rdOf ByteArray.empty F (i : Int)).size ≤ 9223372036854775807 := fun c => by
      rw [ByteArray.size_append, bytes_size]
      have : (⟨#[c]⟩ : ByteArray).size = 1 := rfl
      omega
    have hpush := fun c => bytes_push (textL F (p : Int) (m : Int) i) _ (rdOf ByteArray.empty F (i : Int)) rfl c
    simp only [textL, signL] at hr
    rw [b1, b2] at hr
    refine Ev.step (fun k => by rw [cognateref02_Text.l0]) (Ev.ifp g1 ?_)
    rw [IntWalk.u64_in _ k3, w64s w1]
    refine Ev.ifp g2 ?_
    cases hpi : p.testBit i with
    | false =>
      rw [hpi] at hr
      refine Ev.ifp (z1.2 hpi) ?_
      cases hmi : m.testBit i with
      | false =>
        rw [hmi] at hr
        simp only [Bool.false_eq_true, if_false, List.append_nil] at hr
        exact Ev.ifp (z2.2 hmi) hr
      | true =>
        rw [hmi] at hr
        simp only [Bool.false_eq_true, if_false, if_true] at hr
        refine Ev.ifn (fun h => by rw [z2.1 h] at hmi; cases hmi) (Ev.ifp s1 (Ev.ifp g2 (Ev.ifp (s2 45) ?_)))
        rw [hpush]
        exact hr
    | true =>
      rw [hpi] at hr
      simp only [if_true] at hr
      have hmi : m.testBit i = false := by
        cases e : m.testBit i with
        | false => rfl
        | true => exact absurd ⟨hpi, e⟩ (and_bit hd i)
      refine Ev.ifn (fun h => by rw [z1.1 h] at hpi; cases hpi) (Ev.ifp s1 (Ev.ifp g2 (Ev.ifp (s2 43) (Ev.ifp (z2.2 hmi) ?_))))
      rw [hpush]
      exact hr
theorem refText_ev (F : List ByteArray) (L : List S53) (p m : Int) (hp : U32 p) (hm : U32 m) : Ev (fun k => cognateref02_Text.f k F L p m) (textV F L p m) := by
  refine Ev.bind (asked_ev F L [] (by simp)) ?_
  rw [asked_nil]
  unfold textV
  rcases hc : checkB F L with _ | _
  · exact Ev.ifn (by decide) (Ev.now _)
  · rw [if_pos rfl, if_pos rfl]
    have hF := (check_feats hc).1
    have h24 : 2 ^ F.length ≤ 2 ^ 24 := Nat.pow_le_pow_right (by omega) hF
    refine Ev.ifp rfl (Ev.someb (fun _ => may_eq F L p m hF) ?_)
    by_cases hw : withinB F p m = true
    · rw [if_pos hw]
      obtain ⟨P, rfl, hP⟩ := u32_nat hp
      obtain ⟨M, rfl, hM⟩ := u32_nat hm
      obtain ⟨h1, h2, h3⟩ := (within_nat F P M hF hP hM).1 hw
      exact Ev.ifp hw (refText_l0 F L hc P M (by omega) (by omega) h3 F.length 0 rfl (by omega))
    · rw [if_neg hw]
      exact Ev.ifn hw (Ev.now _)
/-! ### Parse -/
theorem refParse_l1 (F : List ByteArray) (L : List S53) (s : ByteArray) (hs : s.size ≤ 65536) (p m : Int) (n E : Nat) (r : Int × Int × Int × Int) (hE : E ≤ s.size) (hyes : ∀ j (hj : j < s.size), n < j → j < E → abcB (s[j]'hj) = true) (hno : ∀ (h : E < s.size), abcB (s[E]'h) = false)
    (hgo : Ev (fun k => cognateref02_Parse.j2 k s p m (n : Int) (E : Int) F L) r) : ∀ (d e : Nat), E - e = d → n < e → e ≤ E → Ev (fun k => cognateref02_Parse.l1 k s p m (n : Int) (e : Int) F L) r := by
  have bt_at' : ∀ (i : Nat) (h : i < s.size), bt s (i : Int) = ((s[i]'h).toNat : Int) := fun i h => by simp [bt, h]
  intro d
  induction d with
  | zero =>
    intro e hd hn he
    obtain rfl : e = E := by omega
    by_cases hlt : e < s.size
    · have h0 := hno hlt
      unfold abcB at h0
      rw [decide_eq_false_iff_not] at h0
      refine Ev.step (fun k => by rw [cognateref02_Parse.l1]) (Ev.ifp (by omega) (Ev.ifp (by omega) ?_))
      rw [bt_at' e hlt]
      by_cases h1 : ((s[e]'hlt).toNat : Int) ≥ 97
      · exact Ev.ifp h1 (Ev.ifn (by omega) hgo)
      · exact Ev.ifn h1 hgo
    · exact Ev.step (fun k => by rw [cognateref02_Parse.l1]) (Ev.ifn (by omega) hgo)
  | succ d ih =>
    intro e hd hn he
    have hlt : e < s.size := by omega
    have h0 := hyes e hlt hn (by omega)
    unfold abcB at h0
    rw [decide_eq_true_eq] at h0
    have w1 : e ≤ 1000000000000 := by omega
    refine Ev.step (fun k => by rw [cognateref02_Parse.l1]) (Ev.ifp (by omega) (Ev.ifp (by omega) ?_))
    rw [bt_at' e hlt]
    refine Ev.ifp (by omega) (Ev.ifp (by omega) ?_)
    rw [w64s w1]
    exact ih (e + 1) (by omega) (by omega) (by omega)
theorem refParse_l0 (F : List ByteArray) (L : List S53) (hF : F.length ≤ 24) (s : ByteArray) (hs : s.size ≤ 65536) : ∀ (K n p m : Nat), n ≤ s.size → s.size < n + K → p < 2 ^ F.length → m < 2 ^ F.length →
    Ev (fun k => cognateref02_Parse.l0 k s (p : Int) (m : Int) (n : Int) F L) (parseL F K (s.data.toList.drop n) (n : Int) (p : Int) (m : Int)) := by
  have h24 : 2 ^ F.length ≤ 2 ^ 24 := Nat.pow_le_pow_right (by omega) hF
  have bt_at' : ∀ (i : Nat) (h : i < s.size), bt s (i : Int) = ((s[i]'h).toNat : Int) := fun i h => by simp [bt, h]
  have hll : s.data.toList.length = s.size := by rw [Array.length_toList]; rfl
  intro K
  induction K with
  | zero => exact fun n p m h1 h2 => absurd h2 (by omega)
  | succ K ih =>
    intro n p m hn hK hp hm
    rcases Nat.lt_or_ge n s.size with hlt | hge
    · have hdr : s.data.toList.drop n = s[n] :: s.data.toList.drop (n + 1) := by rw [List.drop_eq_getElem_cons (by omega)]; rfl
      obtain ⟨t, ht⟩ : ∃ t, s.data.toList.drop (n + 1) = t := ⟨_, rfl⟩
      obtain ⟨c, hc⟩ : ∃ c, s[n] = c := ⟨_, rfl⟩
      have htl : t.length = s.size - (n + 1) := by rw [← ht, List.length_drop, hll]
      have htk : (t.takeWhile abcB).length ≤ t.length := (List.takeWhile_sublist _).length_le
      obtain ⟨E, hE⟩ : ∃ E, E = n + 1 + (t.takeWhile abcB).length := ⟨_, rfl⟩
      have hE2 : E ≤ s.size := by omega
      have hsi : (s.extract (n + 1) E).data.toList = t.takeWhile abcB := by
        rw [ByteArray.data_extract, Array.toList_extract, List.extract_eq_take_drop, ht]
        have : E - (n + 1) = (t.takeWhile abcB).length := by omega
        rw [this]
        exact (List.prefix_iff_eq_take.1 (List.takeWhile_prefix _)).symm
      have hdE : s.data.toList.drop E = t.drop (t.takeWhile abcB).length := by rw [hE, ← ht, List.drop_drop]
      have hget : ∀ j (hj : j < s.size), n < j → t[j - (n + 1)]? = some (s[j]'hj) := fun j hj h => by
        rw [← ht, List.getElem?_drop, show n + 1 + (j - (n + 1)) = j by omega, List.getElem?_eq_getElem (by omega)]
        rfl
      have hyes : ∀ j (hj : j < s.size), n < j → j < E → abcB (s[j]'hj) = true := fun j hj h1 h2 => by
        have h3 := hget j hj h1
        have h4 : (t.takeWhile abcB)[j - (n + 1)]? = some (s[j]'hj) := by
          rw [List.prefix_iff_eq_take.1 (List.takeWhile_prefix (l := t) abcB), List.getElem?_take, if_pos (by omega)]
          exact h3
        exact of_takeWhile (List.mem_of_getElem? h4)
      have hno : ∀ (h : E < s.size), abcB (s[E]'h) = false := fun h => by
        have h3 := hget E h (by omega)
        have h5 : t.dropWhile abcB = t.drop (t.takeWhile abcB).length := dropWhile_len _ _
        have h6 := List.head?_dropWhile_not abcB t
        rw [h5, List.head?_drop, show (t.takeWhile abcB).length = E - (n + 1) by omega, h3] at h6
        simpa using h6
      have w1 : n ≤ 1000000000000 := by omega
      rw [hdr, ht, hc, parseL]
      refine Ev.step (fun k => by rw [cognateref02_Parse.l0]) (Ev.ifp (by omega) ?_)
      rw [w64s w1]
      refine refParse_l1 F L s hs (p : Int) (m : Int) n E _ hE2 hyes hno ?_ (E - (n + 1)) (n + 1) rfl (by omega) (by omega)
      refine Ev.step (fun k => by rw [cognateref02_Parse.j2]) ?_
      rw [w64s w1]
      refine Ev.ifp (by omega) (Ev.ifp (by omega) (Ev.ifp (by omega) ?_))
      rw [Int.toNat_natCast, Int.toNat_natCast]
      refine Ev.bind (named_ev F L _ (by omega)) (Ev.ifp (by omega) (Ev.ifp (by omega) ?_))
      rw [hsi, bt_at' n hlt, hc]
      obtain ⟨v, hv⟩ : ∃ v, idxS F (t.takeWhile abcB) = v := ⟨_, rfl⟩
      rw [hv]
      have hgo : (c = 43 ∨ c = 45) → Ev (fun k => cognateref02_Parse.j3 k s (p : Int) (m : Int) (n : Int) (E : Int) v (decide (v < 0)) F L) (if (c = 43 ∨ c = 45) ∧ 0 ≤ v ∧ bitB (Go.bits .or .u32 (p : Int) (m : Int)) v = false then (if c = 43 then parseL F K (t.drop (t.takeWhile abcB).length) ((n : Int) + 1 + (t.takeWhile abcB).length) (Go.bits .or .u32 (p : Int) (shl .u32 1 v)) (m : Int) else parseL F K (t.drop (t.takeWhile abcB).length) ((n : Int) + 1 + (t.takeWhile abcB).length) (p : Int) (Go.bits .or .u32 (m : Int) (shl .u32 1 v))) else (0, 0, (n : Int), 20)) := by
        intro hcc
        refine Ev.step (fun k => by rw [cognateref02_Parse.j3]) ?_
        by_cases h0 : v < 0
        · rw [if_neg (by rintro ⟨_, h, _⟩; omega)]
          exact Ev.ifp (decide_eq_true h0) (Ev.now _)
        · obtain ⟨i, hi, hiF⟩ := idxS_range F (t.takeWhile abcB) (by omega)
          rw [hv] at hi
          subst hi
          have k3 : 0 ≤ (i : Int) ∧ (i : Int) ≤ 18446744073709551615 := by omega
          have q3 : 2 ^ i < 2 ^ F.length := Nat.pow_lt_pow_right (by omega) hiF
          have hor : p ||| m < 2 ^ F.length := Nat.or_lt_two_pow hp hm
          refine Ev.ifn (by simp) ?_
          rw [IntWalk.u64_in _ k3]
          refine Ev.ifp k3.1 ?_
          rw [or_nat p m (by omega) (by omega), bit_nat _ _ (by omega) (by omega)]
          have hz := bit_zero (p ||| m) i (by omega) (by omega)
          by_cases hb : (p ||| m).testBit i = false
          · rw [if_pos ⟨hcc, by omega, hb⟩]
            refine Ev.ifp (hz.2 hb) (Ev.ifp (by omega) (Ev.ifp (by omega) ?_))
            rw [bt_at' n hlt, hc, shl_nat i (by omega), or_nat p _ (by omega) (by omega), or_nat m _ (by omega) (by omega), show (n : Int) + 1 + (t.takeWhile abcB).length = (E : Int) by omega, ← hdE]
            by_cases h43 : c = 43
            · rw [if_pos h43]
              refine Ev.ifp (by rw [h43]; rfl) ?_
              exact ih E (p ||| 2 ^ i) m hE2 (by omega) (Nat.or_lt_two_pow hp q3) hm
            · rw [if_neg h43]
              refine Ev.ifn (fun h => h43 (UInt8.toNat_inj.1 (by have : c.toNat = 43 := by omega
                                                                 exact this))) ?_
              exact ih E p (m ||| 2 ^ i) hE2 (by omega) hp (Nat.or_lt_two_pow hm q3)
          · rw [if_neg (by rintro ⟨_, _, h⟩; exact hb h)]
            exact Ev.ifn (fun h => hb (hz.1 h)) (Ev.now _)
      by_cases h43 : c = 43
      · exact Ev.ifp (by rw [h43]; rfl) (hgo (Or.inl h43))
      · refine Ev.ifn (fun h => h43 (UInt8.toNat_inj.1 (by have : c.toNat = 43 := by omega
                                                           exact this))) ?_
        by_cases h45 : c = 45
        · exact Ev.ifp (by rw [h45]; rfl) (hgo (Or.inr h45))
        · refine Ev.ifn (fun h => h45 (UInt8.toNat_inj.1 (by have : c.toNat = 45 := by omega
                                                             exact this))) ?_
          rw [if_neg (by rintro ⟨h | h, _⟩ <;> contradiction)]
          exact Ev.step (fun k => by rw [cognateref02_Parse.j3]) (Ev.ifp rfl (Ev.now _))
    · obtain rfl : n = s.size := by omega
      rw [List.drop_eq_nil_of_le (by omega), parseL]
      exact Ev.step (fun k => by rw [cognateref02_Parse.l0]) (Ev.ifn (by omega) (Ev.now _))
theorem refParse_ev (F : List ByteArray) (L : List S53) (s : ByteArray) : Ev (fun k => cognateref02_Parse.f k F L s) (parseV F L s) := by
  refine Ev.bind (asked_ev F L [] (by simp)) ?_
  rw [asked_nil]
  unfold parseV
  rcases hc : checkB F L with _ | _
  · exact Ev.ifn (by decide) (Ev.now _)
  · rw [if_pos rfl, if_pos rfl]
    refine Ev.ifp rfl ?_
    by_cases hs : 65536 < s.size
    · rw [if_pos hs]
      exact Ev.ifp (by omega) (Ev.now _)
    · rw [if_neg hs]
      refine Ev.ifn (by omega) ?_
      have h0 : 0 < 2 ^ F.length := Nat.pow_pos (by omega)
      exact refParse_l0 F L (check_feats hc).1 s (by omega) (s.size + 1) 0 0 0 (by omega) (by omega) h0 h0
end Go.Proofs.YtjnikjnkmcbjfaaDoor.X
