/- The plain law of FeatureFar: what the law's function computes is true. -/
import Derived.Test.YtjnikjnkmcbjfaaDoorPFeat
import Derived.Test.YtjnikjnkmcbjfaaDoorX36
namespace Go.Proofs.YtjnikjnkmcbjfaaDoor.X
open Go.RowKit Go.Proofs.YtjnikjnkmcbjfaaDoorW.PrintWords Go.Proofs.YtjnikjnkmcbjfaaDoorW.PrintLast Go.Proofs.YtjnikjnkmcbjfaaDoorW.PrintMore
/-- How far two letters of an alphabet are. -/
theorem far_cases {F : List ByteArray} {L : List S53} (hw : WfL L) (x y : Int) :
    (∃ e : Int, e ≠ 0 ∧ farV F L x y = (0, e) ∧ (farV F L y x) = (0, e)) ∨
    (checkB F L = true ∧ ∃ p m q n : Nat, p < 2 ^ F.length ∧ m < 2 ^ F.length ∧ q < 2 ^ F.length ∧ n < 2 ^ F.length ∧ (ofV F L x).2 = ((p : Int), (m : Int), 0) ∧ (ofV F L y).2 = ((q : Int), (n : Int), 0) ∧ farV F L x y = (((cnt F.length p m q n : Nat) : Int), 0)) := by
  have key : ∀ z : Int, (∃ e : Int, e ≠ 0 ∧ ofV F L z = (0, 0, 0, e) ∧ (checkB F L = false → e = 7) ∧ (checkB F L = true → e = 5)) ∨ (checkB F L = true ∧ ∃ p m : Nat, p < 2 ^ F.length ∧ m < 2 ^ F.length ∧ (ofV F L z).2 = ((p : Int), (m : Int), 0)) := by
    intro z
    rcases of_cases F L z with ⟨hc, he⟩ | ⟨hc, _, he⟩ | ⟨hc, i, hi, _, he⟩
    · exact Or.inl ⟨7, by decide, he, fun _ => rfl, fun h => (by rw [hc] at h; cases h)⟩
    · exact Or.inl ⟨5, by decide, he, fun h => (by rw [hc] at h; cases h), fun _ => rfl⟩
    · obtain ⟨p, m, e1, e2, hp, hm, _⟩ := letter_signs hc hw i hi
      exact Or.inr ⟨hc, p, m, hp, hm, by rw [he, e1, e2]⟩
  rcases key x with ⟨e, e0, h1, a1, b1⟩ | ⟨hc, p, m, hp, hm, h1⟩
  · left
    refine ⟨e, e0, ?_, ?_⟩
    · unfold farV
      rw [h1]
      simp only [if_neg e0]
    · unfold farV
      rcases key y with ⟨e', e0', h2, a2, b2⟩ | ⟨hc, q, n, hq, hn, h2⟩
      · rw [h2]
        simp only [if_neg e0']
        rcases hck : checkB F L with _ | _
        · rw [a1 hck, a2 hck]
        · rw [b1 hck, b2 hck]
      · rw [h2, h1]
        simp only [if_neg e0, if_pos]
  · rcases key y with ⟨e', e0', h2, a2, b2⟩ | ⟨_, q, n, hq, hn, h2⟩
    · left
      refine ⟨e', e0', ?_, ?_⟩
      · unfold farV
        rw [h1, h2]
        simp only [if_neg e0', if_pos]
      · unfold farV
        rw [h2]
        simp only [if_neg e0']
    · right
      have hF := (check_feats hc).1
      have h24 : 2 ^ F.length ≤ 2 ^ 24 := Nat.pow_le_pow_right (by omega) hF
      refine ⟨hc, p, m, q, n, hp, hm, hq, hn, h1, h2, ?_⟩
      unfold farV
      rw [h1, h2]
      simp only [if_pos]
      rw [unl_nat p m q n (by omega) (by omega) (by omega) (by omega), cnt_cut F.length 32 p m q n (by omega) hp hm hq hn]
theorem featureFar_law (F : List ByteArray) (L : List S53) (hw : WfL L) (x : Int) (_ : (Lit.int .i32 x).wf = true) (y : Int) (_ : (Lit.int .i32 y).wf = true) (z : Int) (_ : (Lit.int .i32 z).wf = true) : ∃ k, cognatelaw02_FeatureFar.f k F L x y z = some true := by
  refine Ev.rounds (Ev.bind alive_ev (Ev.ifp rfl (Ev.someb (fun _ => far_eq _ _ _ _) (Ev.someb (fun _ => far_eq _ _ _ _) (Ev.someb (fun _ => far_eq _ _ _ _) (Ev.someb (fun _ => far_eq _ _ _ _) ?_))))))
  rcases far_cases (F := F) hw x y with ⟨e, e0, h1, h2⟩ | ⟨hc, p, m, q, n, hp, hm, hq, hn, ex, ey, h1⟩
  · rw [h1, h2]
    exact Ev.ifp rfl (Ev.ifn e0 (Ev.ifp rfl (Ev.now _)))
  · have hF := (check_feats hc).1
    have hyx : farV F L y x = (((cnt F.length p m q n : Nat) : Int), 0) := by
      rcases far_cases (F := F) hw y x with ⟨e, e0, h3, h4⟩ | ⟨_, q', n', p', m', _, _, _, _, ey', ex', h3⟩
      · rw [h1] at h4
        exact absurd (congrArg Prod.snd h4).symm e0
      · rw [ey] at ey'
        rw [ex] at ex'
        simp only [Prod.mk.injEq, and_true] at ex' ey'
        obtain ⟨a1, a2⟩ := ex'
        obtain ⟨a3, a4⟩ := ey'
        obtain rfl : p = p' := by omega
        obtain rfl : m = m' := by omega
        obtain rfl : q = q' := by omega
        obtain rfl : n = n' := by omega
        rw [h3, cnt_comm]
    rw [h1, hyx]
    have hle := cnt_le F.length p m q n
    have hz := cnt_zero F.length p m q n hp hm hq hn
    refine Ev.ifp rfl (Ev.ifp rfl (Ev.ifp rfl (Ev.ifn (by simp only; omega) ?_)))
    refine Ev.step (fun k => by rw [cognatelaw02_FeatureFar.j0]) (Ev.ifn (by simp only [decide_eq_true_eq]; omega) (Ev.someb (fun _ => of_eq _ _ _) (Ev.someb (fun _ => of_eq _ _ _) ?_)))
    rw [ex, ey]
    refine Ev.ifp rfl (Ev.ifp rfl ?_)
    have hj : Ev (fun k => cognatelaw02_FeatureFar.j1 k ((cnt F.length p m q n : Nat) : Int) (farV F L x z).1 (farV F L x z).2 (farV F L z y).1 (farV F L z y).2 false) true := by
      refine Ev.step (fun k => by rw [cognatelaw02_FeatureFar.j1]) (Ev.ifn (by decide) ?_)
      rcases far_cases (F := F) hw x z with ⟨e, e0, h3, h4⟩ | ⟨_, p', m', u, v, hp', hm', hu, hv, ex', ez, h3⟩
      · rw [h3]
        exact Ev.ifn e0 (Ev.now _)
      · rcases far_cases (F := F) hw z y with ⟨e, e0, h5, h6⟩ | ⟨_, u', v', q', n', _, _, _, _, ez', ey', h5⟩
        · rw [h3, h5]
          exact Ev.ifp rfl (Ev.ifn e0 (Ev.now _))
        · rw [ex] at ex'
          rw [ez] at ez'
          rw [ey] at ey'
          simp only [Prod.mk.injEq, and_true] at ex' ey' ez'
          obtain ⟨a1, a2⟩ := ex'
          obtain ⟨a3, a4⟩ := ey'
          obtain ⟨a5, a6⟩ := ez'
          obtain rfl : p = p' := by omega
          obtain rfl : m = m' := by omega
          obtain rfl : q = q' := by omega
          obtain rfl : n = n' := by omega
          obtain rfl : u = u' := by omega
          obtain rfl : v = v' := by omega
          rw [h3, h5]
          refine Ev.ifp rfl (Ev.ifp rfl (Ev.ret ?_))
          have t := cnt_tri p m q n u v F.length
          have l1 := cnt_le F.length p m u v
          have l2 := cnt_le F.length u v q n
          rw [w64 (by simp only; omega)]
          exact decide_eq_true (by simp only; omega)
    by_cases hpq : p = q
    · refine Ev.ifp (by simp only; omega) ?_
      have e : ((((cnt F.length p m q n : Nat) : Int) == 0) != ((m : Int) == (n : Int))) = false := by
        by_cases hmn : m = n
        · have : cnt F.length p m q n = 0 := hz.2 ⟨hpq, hmn⟩
          rw [this, hmn]
          simp
        · have : cnt F.length p m q n ≠ 0 := fun h => hmn (hz.1 h).2
          rw [beq_eq_false_iff_ne.2 (show ((cnt F.length p m q n : Nat) : Int) ≠ 0 by omega), beq_eq_false_iff_ne.2 (show (m : Int) ≠ (n : Int) by omega)]
          rfl
      rw [e]
      exact hj
    · refine Ev.ifn (by simp only; omega) ?_
      have : cnt F.length p m q n ≠ 0 := fun h => hpq (hz.1 h).1
      rw [beq_eq_false_iff_ne.2 (show ((cnt F.length p m q n : Nat) : Int) ≠ 0 by omega)]
      exact hj
end Go.Proofs.YtjnikjnkmcbjfaaDoor.X
