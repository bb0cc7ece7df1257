/- The plain law of FeatureNearest: what the law's function computes is true. -/
import Derived.Test.YtjnikjnkmcbjfaaDoorPSigns
import Derived.Test.YtjnikjnkmcbjfaaDoorX35
namespace Go.Proofs.YtjnikjnkmcbjfaaDoor.X
open Go.RowKit Go.Proofs.YtjnikjnkmcbjfaaDoorW.PrintWords Go.Proofs.YtjnikjnkmcbjfaaDoorW.PrintLast Go.Proofs.YtjnikjnkmcbjfaaDoorW.PrintMore
theorem near_good {F : List ByteArray} {L : List S53} (hw : WfL L) (r p m : Int) (hp : U32 p) (hm : U32 m) (h : (nearV F L r p m).2 = 0) :
    checkB F L = true ∧ ∃ (i b : Nat) (x y dp dm : Nat), i < L.length ∧ b < L.length ∧ ofV F L r = ((rd_T53 L (i : Int)).f0, (x : Int), (y : Int), 0) ∧ (rd_T53 L (i : Int)).f1 = (x : Int) ∧ (rd_T53 L (i : Int)).f2 = (y : Int) ∧
      Go.bits .or .u32 (Go.bits .andNot .u32 (x : Int) m) p = (dp : Int) ∧ Go.bits .or .u32 (Go.bits .andNot .u32 (y : Int) p) m = (dm : Int) ∧ dp < 2 ^ 24 ∧ dm < 2 ^ 24 ∧ x < 2 ^ 24 ∧ y < 2 ^ 24 ∧ (Go.bits .or .u32 p m = 0 → dp = x ∧ dm = y) ∧
      nearV F L r p m = ((rd_T53 L (b : Int)).f0, 0) ∧
      (∀ j : Nat, j < L.length → unl (rd_T53 L (b : Int)).f1 (rd_T53 L (b : Int)).f2 dp dm ≤ unl (rd_T53 L (j : Int)).f1 (rd_T53 L (j : Int)).f2 dp dm) ∧
      ∀ j : Nat, j < b → unl (rd_T53 L (b : Int)).f1 (rd_T53 L (b : Int)).f2 dp dm < unl (rd_T53 L (j : Int)).f1 (rd_T53 L (j : Int)).f2 dp dm := by
  rcases of_cases F L r with ⟨_, he⟩ | ⟨_, _, he⟩ | ⟨hc, i, hi, _, he⟩
  · unfold nearV at h
    rw [he] at h
    cases h
  · unfold nearV at h
    rw [he] at h
    cases h
  · obtain ⟨x, y, e1, e2, hx, hy, _⟩ := letter_signs hc hw i hi
    obtain ⟨hF, hL, _⟩ := check_feats hc
    have h24 : 2 ^ F.length ≤ 2 ^ 24 := Nat.pow_le_pow_right (by omega) hF
    obtain ⟨P, rfl, hP⟩ := u32_nat hp
    obtain ⟨M, rfl, hM⟩ := u32_nat hm
    by_cases hwi : withinB F (P : Int) (M : Int) = true
    · obtain ⟨hP2, hM2, _⟩ := (within_nat F P M hF hP hM).1 hwi
      obtain ⟨dp, d1, d2, d3⟩ := want_nat x M P F.length hF hx hM hP2
      obtain ⟨dm, d4, d5, d6⟩ := want_nat y P M F.length hF hy hP hM2
      have hn : nearV F L r (P : Int) (M : Int) = ((minN L (dp : Int) (dm : Int) (L.length - 1)).f0, 0) := by
        unfold nearV
        rw [he]
        simp only
        rw [if_pos True.intro, if_pos hwi, e1, e2, d1, d4]
      obtain ⟨b, b1, b2, b3, b4⟩ := min_spec L (dp : Int) (dm : Int) (L.length - 1)
      refine ⟨hc, i, b, x, y, dp, dm, hi, by omega, by rw [he, e1, e2], e1, e2, d1, d4, by omega, by omega, by omega, by omega, fun hz => ?_, by rw [hn, b2], fun j hj => b3 j (by omega), b4⟩
      rw [or_nat P M hP hM] at hz
      have hz2 : P ||| M = 0 := by omega
      have hP0 : P = 0 := by have := @Nat.left_le_or P M; omega
      have hM0 : M = 0 := by have := @Nat.right_le_or P M; omega
      subst hP0 hM0
      exact ⟨Nat.eq_of_testBit_eq fun q => by rw [d3]; simp, Nat.eq_of_testBit_eq fun q => by rw [d6]; simp⟩
    · unfold nearV at h
      rw [he] at h
      simp only [if_pos, if_neg hwi] at h
      exact absurd h (by decide)
theorem unl_cnt {F : List ByteArray} {L : List S53} (hc : checkB F L = true) (hw : WfL L) (j : Nat) (hj : j < L.length) (dp dm : Nat) (h1 : dp < 2 ^ 24) (h2 : dm < 2 ^ 24) :
    ∃ p m : Nat, (rd_T53 L (j : Int)).f1 = (p : Int) ∧ (rd_T53 L (j : Int)).f2 = (m : Int) ∧ p < 2 ^ 24 ∧ m < 2 ^ 24 ∧ unl (rd_T53 L (j : Int)).f1 (rd_T53 L (j : Int)).f2 dp dm = ((cnt 24 p m dp dm : Nat) : Int) := by
  obtain ⟨p, m, e1, e2, hp, hm, _⟩ := letter_signs hc hw j hj
  have h24 : 2 ^ F.length ≤ 2 ^ 24 := Nat.pow_le_pow_right (by omega) (check_feats hc).1
  refine ⟨p, m, e1, e2, by omega, by omega, ?_⟩
  rw [e1, e2, unl_nat p m dp dm (by omega) (by omega) (by omega) (by omega), cnt_cut 24 32 p m dp dm (by omega) (by omega) (by omega) h1 h2]
theorem nearest_l0 (F : List ByteArray) (L : List S53) (hc : checkB F L = true) (hw : WfL L) (p m : Int) (x0 : Int) (x y dp dm b : Nat) (z0 : Int) (xb yb far : Nat) (hb : b < L.length) (h1 : dp < 2 ^ 24) (h2 : dm < 2 ^ 24)
    (hfar : unl (rd_T53 L (b : Int)).f1 (rd_T53 L (b : Int)).f2 dp dm = (far : Int)) (hmin : ∀ j : Nat, j < L.length → (far : Int) ≤ unl (rd_T53 L (j : Int)).f1 (rd_T53 L (j : Int)).f2 dp dm) (hlt : ∀ j : Nat, j < b → (far : Int) < unl (rd_T53 L (j : Int)).f1 (rd_T53 L (j : Int)).f2 dp dm)
    (hend : Go.bits .or .u32 p m = 0 → xb = x ∧ yb = y) :
    ∀ (d i : Nat), L.length - i = d → i ≤ L.length → Ev (fun k => cognatelaw02_FeatureNearest.l0 k p m (rd_T53 L (b : Int)).f0 (dp : Int) (dm : Int) (far : Int) (decide (b < i)) (i : Int) F L x0 (x : Int) (y : Int) z0 (xb : Int) (yb : Int)) true := by
  have hL := (check_feats hc).2.2
  intro d
  induction d with
  | zero =>
    intro i hd hi
    obtain rfl : i = L.length := by omega
    refine Ev.step (fun k => by rw [cognatelaw02_FeatureNearest.l0]) (Ev.ifn (by omega) (Ev.ifp (decide_eq_true hb) ?_))
    by_cases hz : Go.bits .or .u32 p m = 0
    · obtain ⟨rfl, rfl⟩ := hend hz
      exact Ev.ifp hz (Ev.ifp rfl (Ev.ret (by simp)))
    · exact Ev.ifn hz (Ev.now _)
  | succ d ih =>
    intro i hd hi
    have hi2 : i < L.length := by omega
    have g1 : (i : Int) < (L.length : Int) := by omega
    have g2 : (0 : Int) ≤ (i : Int) := by omega
    have g3 : i ≤ 1000000000000 := by omega
    have hr := ih (i + 1) (by omega) (by omega)
    obtain ⟨pj, mj, e1, e2, q1, q2, q3⟩ := unl_cnt hc hw i hi2 dp dm h1 h2
    have m1 := hmin i hi2
    have m2 := hlt i
    rw [q3] at m1 m2
    refine Ev.step (fun k => by rw [cognatelaw02_FeatureNearest.l0]) (Ev.ifp g1 (Ev.ifp g2 ?_))
    rw [e1, e2]
    refine Ev.bind (signs_ev pj mj dp dm _ (by omega) (by omega) (by omega) (by omega)) ?_
    by_cases hbi : b < i
    · have hr2 : decide (b < i + 1) = true := decide_eq_true (by omega)
      rw [hr2] at hr
      refine Ev.ifp (decide_eq_true hbi) (Ev.ifn (by omega) ?_)
      have hgo : Ev (fun k => cognatelaw02_FeatureNearest.j2 k p m (rd_T53 L (b : Int)).f0 (dp : Int) (dm : Int) (far : Int) true (i : Int) false F L x0 (x : Int) (y : Int) z0 (xb : Int) (yb : Int)) true := by
        refine Ev.step (fun k => by rw [cognatelaw02_FeatureNearest.j2]) (Ev.ifn (by decide) ?_)
        rw [w64s g3]
        exact hr
      by_cases hk : ((cnt 24 pj mj dp dm : Nat) : Int) = (far : Int)
      · exact Ev.ifp hk hgo
      · exact Ev.ifn hk hgo
    · refine Ev.ifn (by simpa using hbi) (Ev.ifn (by omega) ?_)
      have hgo : Ev (fun k => cognatelaw02_FeatureNearest.j3 k p m (rd_T53 L (b : Int)).f0 (dp : Int) (dm : Int) (far : Int) ((rd_T53 L (i : Int)).f0 == (rd_T53 L (b : Int)).f0) (i : Int) false F L x0 (x : Int) (y : Int) z0 (xb : Int) (yb : Int)) true := by
        refine Ev.step (fun k => by rw [cognatelaw02_FeatureNearest.j3]) (Ev.ifn (by decide) ?_)
        rw [w64s g3]
        have e : ((rd_T53 L (i : Int)).f0 == (rd_T53 L (b : Int)).f0) = decide (b < i + 1) := by
          rcases Nat.lt_or_ge i b with h | h
          · rw [decide_eq_false (by omega)]
            exact beq_eq_false_iff_ne.2 (runes_apart hc i b h hb)
          · obtain rfl : i = b := by omega
            rw [decide_eq_true (by omega)]
            exact beq_self_eq_true _
        rw [e]
        exact hr
      by_cases hk : ((cnt 24 pj mj dp dm : Nat) : Int) = (far : Int)
      · refine Ev.ifp hk ?_
        have hib : i = b := by
          rcases Nat.lt_or_ge i b with h | h
          · have := m2 h
            omega
          · omega
        have e : (!((rd_T53 L (i : Int)).f0 == (rd_T53 L (b : Int)).f0)) = false := by rw [hib, beq_self_eq_true]; rfl
        rw [e]
        exact hgo
      · exact Ev.ifn hk hgo
theorem featureNearest_law (F : List ByteArray) (L : List S53) (hw : WfL L) (r : Int) (_ : (Lit.int .i32 r).wf = true) (p : Int) (hp : (Lit.int .u32 p).wf = true) (m : Int) (hm : (Lit.int .u32 m).wf = true) : ∃ k, cognatelaw02_FeatureNearest.f k F L r p m = some true := by
  refine Ev.rounds (Ev.bind alive_ev (Ev.ifp rfl (Ev.someb (fun _ => near_eq _ _ _ _ _) (Ev.someb (fun _ => of_eq _ _ _) ?_))))
  by_cases hz : (nearV F L r p m).2 = 0
  · refine Ev.ifp hz ?_
    obtain ⟨hc, i, b, x, y, dp, dm, hi, hb, ho, e1, e2, d1, d2, q1, q2, q3, q4, q5, hn, hmin, hlt⟩ := near_good hw r p m (u32_of_wf hp) (u32_of_wf hm) hz
    obtain ⟨xb, yb, b1, b2, b3, b4, b5⟩ := unl_cnt hc hw b hb dp dm q1 q2
    have hob : feature_Of.f F L (rd_T53 L (b : Int)).f0 = some ((rd_T53 L (b : Int)).f0, (xb : Int), (yb : Int), 0) := by
      unfold feature_Of.f
      rw [if_pos hc, idxR_at hc b hb, if_neg (by omega), b1, b2]
    rw [hn, ho]
    refine Ev.someb (fun _ => hob) (Ev.ifp rfl ?_)
    refine Ev.step (fun k => by rw [cognatelaw02_FeatureNearest.j0]) (Ev.ifn (by simp) ?_)
    simp only
    rw [d1, d2]
    refine Ev.bind (signs_ev xb yb dp dm _ (by omega) (by omega) (by omega) (by omega)) ?_
    rw [b5] at hmin hlt
    refine nearest_l0 F L hc hw p m _ x y dp dm b _ xb yb _ hb q1 q2 b5 hmin hlt (fun h0 => ?_) L.length 0 rfl (by omega)
    obtain ⟨rfl, rfl⟩ := q5 h0
    have h1 := hmin i hi
    rw [e1, e2, unl_nat dp dm dp dm (by omega) (by omega) (by omega) (by omega), (cnt_zero 32 dp dm dp dm (by omega) (by omega) (by omega) (by omega)).2 ⟨rfl, rfl⟩] at h1
    exact (cnt_zero 24 xb yb dp dm b3 b4 q1 q2).1 (by omega)
  · refine Ev.ifn hz (Ev.ret ?_)
    have : (nearV F L r p m).1 = 0 := by
      unfold nearV at hz ⊢
      by_cases h1 : (ofV F L r).2.2.2 = 0
      · rw [if_pos h1] at hz ⊢
        by_cases h2 : withinB F p m = true
        · rw [if_pos h2] at hz
          exact absurd rfl hz
        · rw [if_neg h2]
      · rw [if_neg h1]
    rw [this]
    rfl
end Go.Proofs.YtjnikjnkmcbjfaaDoor.X
