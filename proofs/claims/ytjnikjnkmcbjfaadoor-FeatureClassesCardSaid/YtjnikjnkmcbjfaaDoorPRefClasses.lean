/- The plain law: the document's Of, Has, Class and Far answer as feature's. No program in sight. -/
import Derived.Test.YtjnikjnkmcbjfaaDoorPRefA
import Derived.Test.YtjnikjnkmcbjfaaDoorPFeat
import Derived.Test.YtjnikjnkmcbjfaaDoorX16
import Derived.Test.YtjnikjnkmcbjfaaDoorX10
namespace Go.Proofs.YtjnikjnkmcbjfaaDoor.X
open Go.RowKit Go.Proofs.YtjnikjnkmcbjfaaDoorW.PrintWords Go.Proofs.YtjnikjnkmcbjfaaDoorW.PrintLast Go.Proofs.YtjnikjnkmcbjfaaDoorW.PrintMore
theorem asked_one (F : List ByteArray) (L : List S53) (r : Int) : askedV F L [r] = (ofV F L r).2.2.2 := by
  unfold askedV ofV feature_Of.f
  rcases checkB F L with _ | _
  · rfl
  · by_cases h : idxR L r < 0
    · rw [if_pos rfl, if_pos rfl, if_pos h, if_neg (fun k => by have := k r (List.mem_singleton.2 rfl); omega)]
      rfl
    · rw [if_pos rfl, if_pos rfl, if_neg h, if_pos (fun y hy => by rw [List.mem_singleton.1 hy]; omega)]
      rfl
theorem ofV_ok {F : List ByteArray} {L : List S53} {r : Int} (h : (ofV F L r).2.2.2 = 0) : checkB F L = true ∧ ∃ i : Nat, i < L.length ∧ idxR L r = (i : Int) ∧ ofV F L r = ((rd_T53 L (i : Int)).f0, (rd_T53 L (i : Int)).f1, (rd_T53 L (i : Int)).f2, 0) := by
  unfold ofV feature_Of.f at *
  rcases hc : checkB F L with _ | _
  · simp [hc] at h
  · refine ⟨rfl, ?_⟩
    rcases idxR_cases L r with ⟨he, hn⟩ | ⟨i, hi, he, hr, _⟩
    · simp [hc, he] at h
    · exact ⟨i, hi, he, by rw [he, if_pos rfl, if_neg (by omega)]; rfl⟩
theorem ofV_bad {F : List ByteArray} {L : List S53} {r : Int} (h : (ofV F L r).2.2.2 ≠ 0) : ofV F L r = (0, 0, 0, (ofV F L r).2.2.2) := by
  rcases of_cases F L r with ⟨_, e⟩ | ⟨_, _, e⟩ | ⟨_, i, _, _, e⟩
  · rw [e]
  · rw [e]
  · rw [e] at h
    exact absurd rfl h
theorem refOf_ev (F : List ByteArray) (L : List S53) (r : Int) : Ev (fun k => cognateref02_Of.f k F L r) (ofV F L r) := by
  refine Ev.bind (asked_ev F L [r] (by simp)) ?_
  rw [asked_one]
  by_cases h : (ofV F L r).2.2.2 = 0
  · obtain ⟨hc, i, hi, e, v⟩ := ofV_ok h
    have hL := (check_feats hc).2.2
    refine Ev.ifp h (Ev.bind (find_ev F L r (by omega)) ?_)
    rw [e]
    exact Ev.ifp (by omega) (Ev.ifp (by omega) (Ev.ret v.symm))
  · exact Ev.ifn h (Ev.ret (ofV_bad h).symm)
theorem refLike_eq {F : List ByteArray} {L : List S53} (_ : checkB F L = true) (hw : WfL L) (j : Nat) (hj : j < L.length) (p m : Int) (hp : U32 p) (hm : U32 m) :
    cognateref02_Like.f (rd_T53 L (j : Int)).f0 (rd_T53 L (j : Int)).f1 (rd_T53 L (j : Int)).f2 p m = some (likeB (rd_T53 L (j : Int)) p m) := by
  obtain ⟨P, rfl, hP⟩ := u32_nat hp
  obtain ⟨M, rfl, hM⟩ := u32_nat hm
  have hx := hw _ (rd_mem L j hj)
  obtain ⟨a, ea, ha⟩ := u32_nat (u32_of_wf hx.2.1)
  obtain ⟨b, eb, hb⟩ := u32_nat (u32_of_wf hx.2.2)
  rw [like_nat _ a b P M ea eb ha hb hP hM]
  unfold cognateref02_Like.f
  rw [ea, eb, and_nat a P ha hP, and_nat b M hb hM]
  have c1 : (((a &&& P : Nat) : Int) = (P : Int)) ↔ (P &&& a = P) := by rw [Nat.and_comm]; omega
  have c2 : (((b &&& M : Nat) : Int) == (M : Int)) = decide (M &&& b = M) := by
    rw [Nat.and_comm, Bool.eq_iff_iff, beq_iff_eq, decide_eq_true_iff]
    omega
  by_cases h : P &&& a = P
  · rw [if_pos (c1.2 h), c2, decide_eq_true h, Bool.true_and]
  · rw [if_neg (fun k => h (c1.1 k)), decide_eq_false h, Bool.false_and]
theorem refHas_ev (F : List ByteArray) (L : List S53) (hw : WfL L) (r p m : Int) (hp : U32 p) (hm : U32 m) : Ev (fun k => cognateref02_Has.f k F L r p m) (hasV F L r p m) := by
  refine Ev.bind (asked_ev F L [r] (by simp)) ?_
  rw [asked_one]
  unfold hasV
  by_cases h : (ofV F L r).2.2.2 = 0
  · obtain ⟨hc, i, hi, e, v⟩ := ofV_ok h
    have hL := check_feats hc
    refine Ev.ifp h (Ev.someb (fun _ => may_eq F L p m hL.1) ?_)
    rw [if_pos h]
    by_cases hwi : withinB F p m = true
    · rw [if_pos hwi]
      refine Ev.ifp hwi (Ev.bind (find_ev F L r (by omega)) ?_)
      rw [e]
      refine Ev.ifp (by omega) (Ev.ifp (by omega) (Ev.someb (fun _ => refLike_eq hc hw i hi p m hp hm) (Ev.ret ?_)))
      rw [v]
    · rw [if_neg hwi]
      exact Ev.ifn hwi (Ev.now _)
  · rw [if_neg h]
    exact Ev.ifn h (Ev.now _)
theorem refClass_l0 (F : List ByteArray) (L : List S53) (hc : checkB F L = true) (hw : WfL L) (p m : Int) (hp : U32 p) (hm : U32 m) : ∀ (d i : Nat) (acc : List Int), L.length - i = d → i ≤ L.length → acc.length ≤ i → Ev (fun k => cognateref02_Class.l0 k p m acc (i : Int) F L) (acc ++ ((L.drop i).filter (fun x => likeB x p m)).map (·.f0), 0) := by
  have hL := (check_feats hc).2.2
  intro d
  induction d with
  | zero =>
    intro i acc hd hi ha
    obtain rfl : i = L.length := by omega
    refine Ev.step (fun k => by rw [cognateref02_Class.l0]) (Ev.ifn (by omega) (Ev.ret ?_))
    rw [List.drop_length]
    simp
  | succ d ih =>
    intro i acc hd hi ha
    have hi2 : i < L.length := by omega
    have he : L.drop i = L[i] :: L.drop (i + 1) := List.drop_eq_getElem_cons hi2
    refine Ev.step (fun k => by rw [cognateref02_Class.l0]) (Ev.ifp (by omega) (Ev.ifp (by omega) (Ev.someb (fun _ => refLike_eq hc hw i hi2 p m hp hm) ?_)))
    rw [rdL L i hi2, he, List.filter_cons, w64s (by omega)]
    by_cases hl : likeB L[i] p m = true
    · rw [if_pos hl]
      refine Ev.ifp hl (Ev.ifp (by omega) ?_)
      have := ih (i + 1) (acc ++ [(L[i]).f0]) (by omega) (by omega) (by rw [List.length_append]; simp only [List.length_cons, List.length_nil]; omega)
      simpa using this
    · rw [if_neg hl]
      exact Ev.ifn hl (ih (i + 1) acc (by omega) (by omega) (by omega))
theorem refClass_ev (F : List ByteArray) (L : List S53) (hw : WfL L) (p m : Int) (hp : U32 p) (hm : U32 m) : Ev (fun k => cognateref02_Class.f k F L p m) (classV F L p m) := by
  refine Ev.bind (asked_ev F L [] (by simp)) ?_
  rw [asked_nil]
  unfold classV
  rcases hc : checkB F L with _ | _
  · exact Ev.ifn (by decide) (Ev.now _)
  · refine Ev.ifp rfl (Ev.someb (fun _ => may_eq F L p m (check_feats hc).1) ?_)
    rw [if_pos rfl]
    by_cases hwi : withinB F p m = true
    · rw [if_pos hwi]
      refine Ev.ifp hwi ?_
      have := refClass_l0 F L hc hw p m hp hm L.length 0 [] rfl (by omega) (by simp)
      simpa using this
    · rw [if_neg hwi]
      exact Ev.ifn hwi (Ev.now _)
theorem bits_eq (p q i : Nat) : ((p &&& 2 ^ i : Nat) : Int) = ((q &&& 2 ^ i : Nat) : Int) ↔ p.testBit i = q.testBit i := by
  rw [Int.natCast_inj]
  constructor
  · intro h
    have := congrArg (fun x => x.testBit i) h
    simpa [Nat.testBit_and, Nat.testBit_two_pow_self] using this
  · intro h
    apply Nat.eq_of_testBit_eq
    intro j
    rw [Nat.testBit_and, Nat.testBit_and]
    by_cases e : i = j
    · rw [← e, h]
    · rw [Nat.testBit_two_pow_of_ne e, Bool.and_false, Bool.and_false]
theorem cnt_succ (i p m q n : Nat) : cnt (i + 1) p m q n = cnt i p m q n + (if (p.testBit i != q.testBit i || m.testBit i != n.testBit i) = true then 1 else 0) := by
  unfold cnt
  rw [List.range_succ, List.countP_append, List.countP_cons, List.countP_nil, Nat.zero_add]
theorem unlike_l0 (f g : Int) (p m q n : Nat) (hp : p < 4294967296) (hm : m < 4294967296) (hq : q < 4294967296) (hn : n < 4294967296) : ∀ d i : Nat, i + d = 24 → Ev (fun k => cognateref02_unlike.l0 k (cnt i p m q n : Int) ((2 ^ i : Nat) : Int) f p m g q n) (cnt 24 p m q n : Int) := by
  intro d
  induction d with
  | zero =>
    intro i hi
    obtain rfl : i = 24 := by omega
    exact Ev.step (fun k => by rw [cognateref02_unlike.l0]) (Ev.ifn (by decide) (Ev.now _))
  | succ d ih =>
    intro i hi
    have h1 : 2 ^ i < 2 ^ 24 := Nat.pow_lt_pow_right (by omega) (by omega)
    have h2 : (2 : Nat) ^ 24 = 16777216 := by decide
    have h3 : 2 ^ i < 4294967296 := by omega
    have h4 : (((2 ^ i : Nat) : Int) * 2) % 4294967296 = ((2 ^ (i + 1) : Nat) : Int) := by rw [Nat.pow_succ]; omega
    have hc := cnt_le i p m q n
    have h5 : wrap64 ((cnt i p m q n : Int) + 1) = ((cnt i p m q n + 1 : Nat) : Int) := w64s (by omega)
    have hk := ih (i + 1) (by omega)
    rw [cnt_succ] at hk
    refine Ev.step (fun k => by rw [cognateref02_unlike.l0]) (Ev.ifp (by omega) ?_)
    rw [and_nat p _ hp h3, and_nat q _ hq h3, and_nat m _ hm h3, and_nat n _ hn h3, h4, h5]
    by_cases c1 : p.testBit i = q.testBit i
    · refine Ev.ifp ((bits_eq p q i).2 c1) ?_
      by_cases c2 : m.testBit i = n.testBit i
      · refine Ev.ifp ((bits_eq m n i).2 c2) ?_
        rw [if_neg (by simp [c1, c2])] at hk
        exact hk
      · refine Ev.ifn (fun h => c2 ((bits_eq m n i).1 h)) ?_
        rw [if_pos (by simp [c2])] at hk
        exact hk
    · refine Ev.ifn (fun h => c1 ((bits_eq p q i).1 h)) ?_
      rw [if_pos (by simp [c1])] at hk
      exact hk
theorem unlike_ev (f g : Int) (p m q n : Nat) (hp : p < 2 ^ 24) (hm : m < 2 ^ 24) (hq : q < 2 ^ 24) (hn : n < 2 ^ 24) : Ev (fun k => cognateref02_unlike.f k f p m g q n) (unl p m q n) := by
  rw [unl_nat p m q n (by omega) (by omega) (by omega) (by omega), cnt_cut 24 32 p m q n (by omega) hp hm hq hn]
  have := unlike_l0 f g p m q n (by omega) (by omega) (by omega) (by omega) 24 0 (by omega)
  have h0 : cnt 0 p m q n = 0 := rfl
  rw [h0] at this
  exact this
theorem asked_two (F : List ByteArray) (L : List S53) (x y : Int) : askedV F L [x, y] = if (ofV F L x).2.2.2 = 0 then (ofV F L y).2.2.2 else (ofV F L x).2.2.2 := by
  unfold askedV ofV feature_Of.f
  rcases checkB F L with _ | _
  · rfl
  · by_cases h : idxR L x < 0
    · rw [if_pos rfl, if_pos rfl, if_pos h, if_neg (fun k => by have := k x (by simp); omega)]
      rfl
    · by_cases h2 : idxR L y < 0
      · rw [if_pos rfl, if_pos rfl, if_neg h, if_pos rfl, if_pos h2, if_neg (fun k => by have := k y (by simp); omega)]
        rfl
      · rw [if_pos rfl, if_pos rfl, if_neg h, if_pos rfl, if_neg h2, if_pos (fun z hz => by
          rcases List.mem_cons.1 hz with rfl | hz
          · omega
          · rw [List.mem_singleton.1 hz]; omega)]
        rfl
theorem refFar_ev (F : List ByteArray) (L : List S53) (hw : WfL L) (x y : Int) : Ev (fun k => cognateref02_Far.f k F L x y) (farV F L x y) := by
  refine Ev.bind (asked_ev F L [x, y] (by simp)) ?_
  rw [asked_two]
  unfold farV
  by_cases h : (ofV F L x).2.2.2 = 0
  · rw [if_pos h, if_pos h]
    by_cases h2 : (ofV F L y).2.2.2 = 0
    · rw [if_pos h2]
      obtain ⟨hc, i, hi, e, v⟩ := ofV_ok h
      obtain ⟨_, j, hj, e2, v2⟩ := ofV_ok h2
      have hL := check_feats hc
      have hF : 2 ^ F.length ≤ 2 ^ 24 := Nat.pow_le_pow_right (by omega) hL.1
      obtain ⟨p, m, ep, em, hp, hm, _⟩ := letter_signs hc hw i hi
      obtain ⟨q, n, eq, en, hq, hn, _⟩ := letter_signs hc hw j hj
      refine Ev.ifp h2 (Ev.bind (find_ev F L x (by omega)) ?_)
      rw [e]
      refine Ev.ifp (by omega) (Ev.ifp (by omega) (Ev.bind (find_ev F L y (by omega)) ?_))
      rw [e2]
      refine Ev.ifp (by omega) (Ev.ifp (by omega) ?_)
      rw [v, v2, ep, em, eq, en]
      exact Ev.bind (unlike_ev _ _ p m q n (by omega) (by omega) (by omega) (by omega)) (Ev.now _)
    · rw [if_neg h2]
      exact Ev.ifn h2 (Ev.now _)
  · rw [if_neg h, if_neg h]
    exact Ev.ifn h (Ev.now _)
end Go.Proofs.YtjnikjnkmcbjfaaDoor.X
