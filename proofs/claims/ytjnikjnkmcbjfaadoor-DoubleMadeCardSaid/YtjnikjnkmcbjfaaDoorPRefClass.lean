/- The plain law: the document's classes are feature's. No program in sight. -/
import Derived.Test.YtjnikjnkmcbjfaaDoorPRefA
import Derived.Test.YtjnikjnkmcbjfaaDoorPFeat
import Derived.Test.YtjnikjnkmcbjfaaDoorX10
namespace Go.Proofs.YtjnikjnkmcbjfaaDoor.X
open Go.RowKit Go.Proofs.YtjnikjnkmcbjfaaDoorW.PrintWords Go.Proofs.YtjnikjnkmcbjfaaDoorW.PrintLast Go.Proofs.YtjnikjnkmcbjfaaDoorW.PrintMore
theorem refLike_eq {F : List ByteArray} {L : List S53} (_ : checkB F L = true) (hw : WfL L) (j : Nat) (hj : j < L.length) (p m : Int) (hp : U32 p) (hm : U32 m) :
    cognateref02_Like.f (rd_T53 L (j : Int)).f0 (rd_T53 L (j : Int)).f1 (rd_T53 L (j : Int)).f2 p m = some (likeB (rd_T53 L (j : Int)) p m) := by
  obtain ⟨P, rfl, hP⟩ := u32_nat hp
  obtain ⟨M, rfl, hM⟩ := u32_nat hm
  have hx := hw _ (rd_mem L j hj)
  obtain ⟨a, ea, ha⟩ := u32_nat (u32_of_wf hx.2.1)
  obtain ⟨b, eb, hb⟩ := u32_nat (u32_of_wf hx.2.2)
  rw [like_nat _ a b P M ea eb ha hb hP hM]
  unfold cognateref02_Like.f
  rw [ea, eb, and_nat a P ha hP, and_nat b M hb hM]
  have c1 : (((a &&& P : Nat) : Int) = (P : Int)) ↔ (P &&& a = P) := by rw [Nat.and_comm]; omega
  have c2 : (((b &&& M : Nat) : Int) == (M : Int)) = decide (M &&& b = M) := by
    rw [Nat.and_comm, Bool.eq_iff_iff, beq_iff_eq, decide_eq_true_iff]
    omega
  by_cases h : P &&& a = P
  · rw [if_pos (c1.2 h), c2, decide_eq_true h, Bool.true_and]
  · rw [if_neg (fun k => h (c1.1 k)), decide_eq_false h, Bool.false_and]
theorem refClass_l0 (F : List ByteArray) (L : List S53) (hc : checkB F L = true) (hw : WfL L) (p m : Int) (hp : U32 p) (hm : U32 m) : ∀ (d i : Nat) (acc : List Int), L.length - i = d → i ≤ L.length → acc.length ≤ i → Ev (fun k => cognateref02_Class.l0 k p m acc (i : Int) F L) (acc ++ ((L.drop i).filter (fun x => likeB x p m)).map (·.f0), 0) := by
  have hL := (check_feats hc).2.2
  intro d
  induction d with
  | zero =>
    intro i acc hd hi ha
    obtain rfl : i = L.length := by omega
    refine Ev.step (fun k => by rw [cognateref02_Class.l0]) (Ev.ifn (by omega) (Ev.ret ?_))
    rw [List.drop_length]
    simp
  | succ d ih =>
    intro i acc hd hi ha
    have hi2 : i < L.length := by omega
    have he : L.drop i = L[i] :: L.drop (i + 1) := List.drop_eq_getElem_cons hi2
    refine Ev.step (fun k => by rw [cognateref02_Class.l0]) (Ev.ifp (by omega) (Ev.ifp (by omega) (Ev.someb (fun _ => refLike_eq hc hw i hi2 p m hp hm) ?_)))
    rw [rdL L i hi2, he, List.filter_cons, w64s (by omega)]
    by_cases hl : likeB L[i] p m = true
    · rw [if_pos hl]
      refine Ev.ifp hl (Ev.ifp (by omega) ?_)
      have := ih (i + 1) (acc ++ [(L[i]).f0]) (by omega) (by omega) (by rw [List.length_append]; simp only [List.length_cons, List.length_nil]; omega)
      simpa using this
    · rw [if_neg hl]
      exact Ev.ifn hl (ih (i + 1) acc (by omega) (by omega) (by omega))
theorem refClass_ev (F : List ByteArray) (L : List S53) (hw : WfL L) (p m : Int) (hp : U32 p) (hm : U32 m) : Ev (fun k => cognateref02_Class.f k F L p m) (classV F L p m) := by
  refine Ev.bind (asked_ev F L [] (by simp)) ?_
  rw [asked_nil]
  unfold classV
  rcases hc : checkB F L with _ | _
  · exact Ev.ifn (by decide) (Ev.now _)
  · refine Ev.ifp rfl (Ev.someb (fun _ => may_eq F L p m (check_feats hc).1) ?_)
    rw [if_pos rfl]
    by_cases hwi : withinB F p m = true
    · rw [if_pos hwi]
      refine Ev.ifp hwi ?_
      have := refClass_l0 F L hc hw p m hp hm L.length 0 [] rfl (by omega) (by simp)
      simpa using this
    · rw [if_neg hwi]
      exact Ev.ifn hwi (Ev.now _)
end Go.Proofs.YtjnikjnkmcbjfaaDoor.X
