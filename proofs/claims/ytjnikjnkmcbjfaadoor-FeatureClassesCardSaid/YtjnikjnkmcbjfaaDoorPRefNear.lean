/- The plain law: the document's Near answers as feature's. No program in sight. -/
import Derived.Test.YtjnikjnkmcbjfaaDoorPRefClasses
import Derived.Test.YtjnikjnkmcbjfaaDoorX17
namespace Go.Proofs.YtjnikjnkmcbjfaaDoor.X
open Go.RowKit Go.Proofs.YtjnikjnkmcbjfaaDoorW.PrintWords Go.Proofs.YtjnikjnkmcbjfaaDoorW.PrintLast Go.Proofs.YtjnikjnkmcbjfaaDoorW.PrintMore
theorem unlike_at {F : List ByteArray} {L : List S53} (hc : checkB F L = true) (hw : WfL L) (f g : Int) (j : Nat) (hj : j < L.length) (q n : Nat) (hq : q < 2 ^ 24) (hn : n < 2 ^ 24) :
    Ev (fun k => cognateref02_unlike.f k f (rd_T53 L (j : Int)).f1 (rd_T53 L (j : Int)).f2 g q n) (unl (rd_T53 L (j : Int)).f1 (rd_T53 L (j : Int)).f2 q n) := by
  have hL := check_feats hc
  have hF : 2 ^ F.length ≤ 2 ^ 24 := Nat.pow_le_pow_right (by omega) hL.1
  obtain ⟨p, m, ep, em, hp, hm, _⟩ := letter_signs hc hw j hj
  rw [ep, em]
  exact unlike_ev f g p m q n (by omega) (by omega) hq hn
theorem nearest_l0 {F : List ByteArray} {L : List S53} (hc : checkB F L = true) (hw : WfL L) (g : Int) (q n : Nat) (hq : q < 2 ^ 24) (hn : n < 2 ^ 24) : ∀ (d i b : Nat), L.length - i = d → 1 ≤ i → i ≤ L.length → b < i → rd_T53 L (b : Int) = minN L q n (i - 1) →
    Ev (fun k => cognateref02_Nearest.l0 k (b : Int) (i : Int) F L g q n) (minN L q n (L.length - 1)).f0 := by
  have hL := (check_feats hc).2.2
  intro d
  induction d with
  | zero =>
    intro i b hd h1 hi hb he
    obtain rfl : i = L.length := by omega
    refine Ev.step (fun k => by rw [cognateref02_Nearest.l0]) (Ev.ifn (by omega) (Ev.ifp (by omega) (Ev.ifp (by omega) (Ev.ret ?_))))
    rw [he]
  | succ d ih =>
    intro i b hd h1 hi hb he
    have hi2 : i < L.length := by omega
    have g1 : (i : Int) < (L.length : Int) := by omega
    have g2 : 0 ≤ (i : Int) := by omega
    have g3 : 0 ≤ (b : Int) := by omega
    have g4 : (b : Int) < (L.length : Int) := by omega
    have g5 : b < L.length := by omega
    have g6 : i ≤ 1000000000000 := by omega
    have hm := minN_step L q n i h1
    refine Ev.step (fun k => by rw [cognateref02_Nearest.l0]) (Ev.ifp g1 (Ev.ifp g2 ?_))
    refine Ev.bind (unlike_at hc hw _ g i hi2 q n hq hn) (Ev.ifp g3 (Ev.ifp g4 ?_))
    refine Ev.bind (unlike_at hc hw _ g b g5 q n hq hn) ?_
    rw [w64s g6]
    rw [← he] at hm
    by_cases c : unl (rd_T53 L (i : Int)).f1 (rd_T53 L (i : Int)).f2 q n < unl (rd_T53 L (b : Int)).f1 (rd_T53 L (b : Int)).f2 q n
    · rw [if_pos (by omega)] at hm
      exact Ev.ifp c (ih (i + 1) i (by omega) (by omega) (by omega) (by omega) hm.symm)
    · rw [if_neg (by omega)] at hm
      exact Ev.ifn c (ih (i + 1) b (by omega) (by omega) (by omega) (by omega) hm.symm)
theorem refNear_ev (F : List ByteArray) (L : List S53) (hw : WfL L) (r p m : Int) (hp : U32 p) (hm : U32 m) : Ev (fun k => cognateref02_Near.f k F L r p m) (nearV F L r p m) := by
  refine Ev.bind (asked_ev F L [r] (by simp)) ?_
  rw [asked_one]
  unfold nearV
  by_cases h : (ofV F L r).2.2.2 = 0
  · obtain ⟨hc, i, hi, e, v⟩ := ofV_ok h
    have hL := check_feats hc
    refine Ev.ifp h (Ev.someb (fun _ => may_eq F L p m hL.1) ?_)
    rw [if_pos h]
    by_cases hwi : withinB F p m = true
    · rw [if_pos hwi]
      obtain ⟨P, rfl, hP⟩ := u32_nat hp
      obtain ⟨M, rfl, hM⟩ := u32_nat hm
      obtain ⟨b1, b2, _⟩ := (within_nat F P M hL.1 hP hM).1 hwi
      have hF : 2 ^ F.length ≤ 2 ^ 24 := Nat.pow_le_pow_right (by omega) hL.1
      obtain ⟨a, c, ea, ec, ha, hcc, _⟩ := letter_signs hc hw i hi
      obtain ⟨q, eq, hq, _⟩ := want_nat a M P F.length hL.1 ha hM b1
      obtain ⟨n, en, hn, _⟩ := want_nat c P M F.length hL.1 hcc hP b2
      refine Ev.ifp hwi (Ev.bind (find_ev F L r (by omega)) ?_)
      rw [e]
      refine Ev.ifp (by omega) (Ev.ifp (by omega) ?_)
      rw [v]
      show Ev (fun k => (cognateref02_Nearest.f k F L _ (rd_T53 L (i : Int)).f1 (rd_T53 L (i : Int)).f2 P M).bind _) _
      rw [ea, ec]
      simp only [cognateref02_Nearest.f]
      rw [eq, en]
      have hk := nearest_l0 hc hw 0 q n (by omega) (by omega) (L.length - 1) 1 0 (by omega) (by omega) (by omega) (by omega) rfl
      exact Ev.bind hk (Ev.now _)
    · rw [if_neg hwi]
      exact Ev.ifn hwi (Ev.now _)
  · rw [if_neg h]
    exact Ev.ifn h (Ev.now _)
end Go.Proofs.YtjnikjnkmcbjfaaDoor.X
