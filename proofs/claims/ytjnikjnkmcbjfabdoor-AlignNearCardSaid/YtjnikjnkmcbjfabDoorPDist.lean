/- The plain law: what a letter over a letter costs is a distance. No program in sight. -/
import Derived.Test.YtjnikjnkmcbjfabDoorGTab
import Derived.Test.YtjnikjnkmcbjfabDoorPWord
namespace Go.Proofs.YtjnikjnkmcbjfabDoor.X
open Go.RowKit Go.Proofs.YtjnikjnkmcbjfabDoorW.PrintWords Go.Proofs.YtjnikjnkmcbjfabDoorW.PrintLast Go.Proofs.YtjnikjnkmcbjfabDoorW.PrintMore
/-- How far two letters of an alphabet are. -/
theorem far_cases {F : List ByteArray} {L : List S91} (hw : WfL L) (x y : Int) :
    (∃ e : Int, e ≠ 0 ∧ farV F L x y = (0, e) ∧ (farV F L y x) = (0, e)) ∨
    (checkB F L = true ∧ ∃ p m q n : Nat, p < 2 ^ F.length ∧ m < 2 ^ F.length ∧ q < 2 ^ F.length ∧ n < 2 ^ F.length ∧ (ofV F L x).2 = ((p : Int), (m : Int), 0) ∧ (ofV F L y).2 = ((q : Int), (n : Int), 0) ∧ farV F L x y = (((cnt F.length p m q n : Nat) : Int), 0)) := by
  have key : ∀ z : Int, (∃ e : Int, e ≠ 0 ∧ ofV F L z = (0, 0, 0, e) ∧ (checkB F L = false → e = 7) ∧ (checkB F L = true → e = 5)) ∨ (checkB F L = true ∧ ∃ p m : Nat, p < 2 ^ F.length ∧ m < 2 ^ F.length ∧ (ofV F L z).2 = ((p : Int), (m : Int), 0)) := by
    intro z
    rcases of_cases F L z with ⟨hc, he⟩ | ⟨hc, _, he⟩ | ⟨hc, i, hi, _, he⟩
    · exact Or.inl ⟨7, by decide, he, fun _ => rfl, fun h => (by rw [hc] at h; cases h)⟩
    · exact Or.inl ⟨5, by decide, he, fun h => (by rw [hc] at h; cases h), fun _ => rfl⟩
    · obtain ⟨p, m, e1, e2, hp, hm, _⟩ := letter_signs hc hw i hi
      exact Or.inr ⟨hc, p, m, hp, hm, by rw [he, e1, e2]⟩
  rcases key x with ⟨e, e0, h1, a1, b1⟩ | ⟨hc, p, m, hp, hm, h1⟩
  · left
    refine ⟨e, e0, ?_, ?_⟩
    · unfold farV
      rw [h1]
      simp only [if_neg e0]
    · unfold farV
      rcases key y with ⟨e', e0', h2, a2, b2⟩ | ⟨hc, q, n, hq, hn, h2⟩
      · rw [h2]
        simp only [if_neg e0']
        rcases hck : checkB F L with _ | _
        · rw [a1 hck, a2 hck]
        · rw [b1 hck, b2 hck]
      · rw [h2, h1]
        simp only [if_neg e0, if_pos]
  · rcases key y with ⟨e', e0', h2, a2, b2⟩ | ⟨_, q, n, hq, hn, h2⟩
    · left
      refine ⟨e', e0', ?_, ?_⟩
      · unfold farV
        rw [h1, h2]
        simp only [if_neg e0', if_pos]
      · unfold farV
        rw [h2]
        simp only [if_neg e0']
    · right
      have hF := (check_feats hc).1
      have h24 : 2 ^ F.length ≤ 2 ^ 24 := Nat.pow_le_pow_right (by omega) hF
      refine ⟨hc, p, m, q, n, hp, hm, hq, hn, h1, h2, ?_⟩
      unfold farV
      rw [h1, h2]
      simp only [if_pos]
      rw [unl_nat p m q n (by omega) (by omega) (by omega) (by omega), cnt_cut F.length 32 p m q n (by omega) hp hm hq hn]
theorem far_symm {F : List ByteArray} {L : List S91} (hw : WfL L) (x y : Int) : (farV F L x y).1 = (farV F L y x).1 := by
  rcases far_cases (F := F) hw x y with ⟨e, e0, h1, h2⟩ | ⟨hc, p, m, q, n, hp, hm, hq, hn, ex, ey, h1⟩
  · rw [h1, h2]
  · rcases far_cases (F := F) hw y x with ⟨e, e0, h3, h4⟩ | ⟨_, q', n', p', m', _, _, _, _, ey', ex', h3⟩
    · rw [h3, h4]
    · rw [ey] at ey'
      rw [ex] at ex'
      simp only [Prod.mk.injEq, and_true] at ex' ey'
      obtain ⟨a1, a2⟩ := ex'
      obtain ⟨a3, a4⟩ := ey'
      obtain rfl : p = p' := by omega
      obtain rfl : m = m' := by omega
      obtain rfl : q = q' := by omega
      obtain rfl : n = n' := by omega
      rw [h1, h3, cnt_comm]
theorem far_tri {F : List ByteArray} {L : List S91} (hw : WfL L) (x y z : Int) (hy : (ofV F L y).2.2.2 = 0) : (farV F L x z).1 ≤ (farV F L x y).1 + (farV F L y z).1 := by
  have nn1 := (farV_in F L x y).1
  have nn2 := (farV_in F L y z).1
  rcases far_cases (F := F) hw x z with ⟨e, e0, h1, h2⟩ | ⟨hc, p, m, q, n, hp, hm, hq, hn, ex, ez, h1⟩
  · rw [h1]
    show (0 : Int) ≤ _
    omega
  · have hx : (ofV F L x).2.2.2 = 0 := by rw [ex]
    have hz : (ofV F L z).2.2.2 = 0 := by rw [ez]
    rcases far_cases (F := F) hw x y with ⟨e, e0, h3, h4⟩ | ⟨_, p', m', u, v, hp', hm', hu, hv, ex', ey, h3⟩
    · have h5 : (farV F L x y).2 = 0 := by unfold farV; rw [if_pos hx, if_pos hy]
      rw [h3] at h5
      exact absurd h5 e0
    · rcases far_cases (F := F) hw y z with ⟨e, e0, h5, h6⟩ | ⟨_, u', v', q', n', _, _, _, _, ey', ez', h5⟩
      · have h7 : (farV F L y z).2 = 0 := by unfold farV; rw [if_pos hy, if_pos hz]
        rw [h5] at h7
        exact absurd h7 e0
      · rw [ex] at ex'
        rw [ez] at ez'
        rw [ey] at ey'
        simp only [Prod.mk.injEq, and_true] at ex' ey' ez'
        obtain ⟨a1, a2⟩ := ex'
        obtain ⟨a3, a4⟩ := ey'
        obtain ⟨a5, a6⟩ := ez'
        obtain rfl : p = p' := by omega
        obtain rfl : m = m' := by omega
        obtain rfl : q = q' := by omega
        obtain rfl : n = n' := by omega
        obtain rfl : u = u' := by omega
        obtain rfl : v = v' := by omega
        rw [h1, h3, h5]
        have t := cnt_tri p m q n u v F.length
        show ((cnt F.length p m q n : Nat) : Int) ≤ ((cnt F.length p m u v : Nat) : Int) + ((cnt F.length u v q n : Nat) : Int)
        omega
theorem dd_symm {F : List ByteArray} {L : List S91} (hw : WfL L) (x y : Int) : dd F L x y = dd F L y x := by
  unfold dd
  by_cases h : x = y
  · rw [if_pos h, if_pos h.symm]
  · rw [if_neg h, if_neg (fun k => h k.symm), far_symm hw]
theorem dd_self (F : List ByteArray) (L : List S91) (x : Int) : dd F L x x = 0 := by
  unfold dd
  rw [if_pos rfl]
theorem dd_zero {F : List ByteArray} {L : List S91} {x y : Int} (h : dd F L x y = 0) : x = y := by
  have := farV_in F L x y
  unfold dd at h
  split at h
  · assumption
  · omega
theorem dd_tri {F : List ByteArray} {L : List S91} (hw : WfL L) (x y z : Int) (hy : (ofV F L y).2.2.2 = 0) : dd F L x z ≤ dd F L x y + dd F L y z := by
  have h1 := far_tri hw x y z hy
  have n1 := farV_in F L x y
  have n2 := farV_in F L y z
  unfold dd
  by_cases a : x = y
  · subst a
    rw [if_pos (show x = x from rfl)]
    omega
  · by_cases b : y = z
    · subst b
      rw [if_pos (show y = y from rfl)]
      omega
    · rw [if_neg a, if_neg b]
      split <;> omega
theorem ofV_in {F : List ByteArray} {L : List S91} (hc : checkB F L = true) {x : Int} (hx : x ∈ L.map (·.f0)) : (ofV F L x).2.2.2 = 0 := by
  rcases of_cases F L x with ⟨h, _⟩ | ⟨_, hn, _⟩ | ⟨_, i, _, _, e⟩
  · rw [hc] at h; cases h
  · obtain ⟨j, hj, e⟩ := (mem_runes L x).1 hx
    exact absurd e (hn j hj)
  · rw [e]
end Go.Proofs.YtjnikjnkmcbjfabDoor.X
