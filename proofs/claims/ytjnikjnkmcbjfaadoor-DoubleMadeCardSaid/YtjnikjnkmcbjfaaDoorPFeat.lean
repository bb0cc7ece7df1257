/- The plain law: feature's calls tell what PClass says in plain words. -/
import Derived.Test.YtjnikjnkmcbjfaaDoorPSpec
import Derived.Test.YtjnikjnkmcbjfaaDoorPEv
import Derived.Test.YtjnikjnkmcbjfaaDoorX26
import Derived.Test.YtjnikjnkmcbjfaaDoorX28
namespace Go.Proofs.YtjnikjnkmcbjfaaDoor.X
open Go.RowKit Go.Proofs.YtjnikjnkmcbjfaaDoorW.PrintWords Go.Proofs.YtjnikjnkmcbjfaaDoorW.PrintLast Go.Proofs.YtjnikjnkmcbjfaaDoorW.PrintMore
theorem rdL (L : List S53) (i : Nat) (h : i < L.length) : rd_T53 L (i : Int) = L[i] := by simp [rd_T53, h]
theorem like_eq (x0 x1 x2 p m : Int) : feature_like.f x0 x1 x2 p m = some (likeB ⟨x0, x1, x2⟩ p m) := by
  unfold feature_like.f likeB
  by_cases h : Go.bits .andNot .u32 p x1 = 0
  · rw [if_pos h, h]
    rfl
  · rw [if_neg h, beq_eq_false_iff_ne.2 h, Bool.false_and]
theorem has_eq (F : List ByteArray) (L : List S53) (r p m : Int) : feature_Has.f F L r p m = some (hasV F L r p m) := by
  unfold feature_Has.f hasV
  rw [of_eq, Option.bind_some]
  by_cases h : (ofV F L r).2.2.2 = 0
  · rw [if_pos h, if_pos h, within_eq, Option.bind_some]
    by_cases hw : withinB F p m = true
    · rw [if_pos hw, if_pos hw, like_eq, Option.bind_some]
    · rw [if_neg hw, if_neg hw]
  · rw [if_neg h, if_neg h]
theorem far_eq (F : List ByteArray) (L : List S53) (x y : Int) : feature_Far.f F L x y = some (farV F L x y) := by
  unfold feature_Far.f farV
  rw [of_eq, Option.bind_some]
  by_cases h : (ofV F L x).2.2.2 = 0
  · rw [if_pos h, if_pos h, of_eq, Option.bind_some]
    by_cases h2 : (ofV F L y).2.2.2 = 0
    · rw [if_pos h2, if_pos h2, unl_eq, Option.bind_some]
    · rw [if_neg h2, if_neg h2]
  · rw [if_neg h, if_neg h]
theorem near_eq (F : List ByteArray) (L : List S53) (r p m : Int) : feature_Near.f F L r p m = some (nearV F L r p m) := by
  unfold feature_Near.f nearV
  rw [of_eq, Option.bind_some]
  by_cases h : (ofV F L r).2.2.2 = 0
  · rw [if_pos h, if_pos h]
    by_cases hw : withinB F p m = true
    · rw [if_pos hw, if_pos hw]
    · rw [if_neg hw, if_neg hw]
  · rw [if_neg h, if_neg h]
theorem class_l0 (L : List S53) (p m : Int) (hL : L.length ≤ 128) : ∀ (d i : Nat) (acc : List Int), L.length - i = d → i ≤ L.length → acc.length ≤ i → Ev (fun k => feature_Class.l0 k p m acc L (L.length : Int) (i : Int)) (acc ++ ((L.drop i).filter (fun x => likeB x p m)).map (·.f0), 0) := by
  intro d
  induction d with
  | zero =>
    intro i acc hd hi ha
    obtain rfl : i = L.length := by omega
    refine Ev.step (fun k => by rw [feature_Class.l0]) (Ev.ifn (by omega) (Ev.ret ?_))
    rw [List.drop_length]
    simp
  | succ d ih =>
    intro i acc hd hi ha
    have hi2 : i < L.length := by omega
    have he : L.drop i = L[i] :: L.drop (i + 1) := List.drop_eq_getElem_cons hi2
    refine Ev.step (fun k => by rw [feature_Class.l0]) (Ev.ifp (by omega) (Ev.ifp (by omega) (Ev.ifp (by omega) (Ev.someb (fun _ => like_eq _ _ _ _ _) ?_))))
    rw [rdL L i hi2, he, List.filter_cons, w64s (by omega)]
    show Ev (fun n => if likeB L[i] p m = true then _ else _) _
    by_cases hl : likeB L[i] p m = true
    · rw [if_pos hl]
      refine Ev.ifp hl (Ev.ifp (by omega) ?_)
      have := ih (i + 1) (acc ++ [(L[i]).f0]) (by omega) (by omega) (by rw [List.length_append]; simp only [List.length_cons, List.length_nil]; omega)
      simpa using this
    · rw [if_neg hl]
      exact Ev.ifn hl (ih (i + 1) acc (by omega) (by omega) (by omega))
theorem class_ev (F : List ByteArray) (L : List S53) (p m : Int) : Ev (fun k => feature_Class.f k F L p m) (classV F L p m) := by
  unfold classV
  refine Ev.someb (fun _ => rfl) ?_
  rcases hc : checkB F L with _ | _
  · exact Ev.ifn (by decide) (Ev.now _)
  · refine Ev.ifp rfl (Ev.someb (fun _ => within_eq F L p m) ?_)
    rw [if_pos rfl]
    by_cases hw : withinB F p m = true
    · rw [if_pos hw]
      refine Ev.ifp hw ?_
      have := class_l0 L p m (check_feats hc).2.2 L.length 0 [] rfl (by omega) (by simp)
      simpa using this
    · rw [if_neg hw]
      exact Ev.ifn hw (Ev.now _)
theorem least_l0 (F : List ByteArray) (L : List S53) (l : List Int) (hl : l.length ≤ 128) : ∀ (d i : Nat) (p m : Int), l.length - i = d → i ≤ l.length → Ev (fun k => feature_Least.l0 k p m l (l.length : Int) (i : Int) F L) (leastL F L (l.drop i) p m) := by
  intro d
  induction d with
  | zero =>
    intro i p m hd hi
    obtain rfl : i = l.length := by omega
    refine Ev.step (fun k => by rw [feature_Least.l0]) (Ev.ifn (by omega) (Ev.ret ?_))
    rw [List.drop_length]
    rfl
  | succ d ih =>
    intro i p m hd hi
    have hi2 : i < l.length := by omega
    have he : l.drop i = l[i] :: l.drop (i + 1) := List.drop_eq_getElem_cons hi2
    refine Ev.step (fun k => by rw [feature_Least.l0]) (Ev.ifp (by omega) (Ev.ifp (by omega) (Ev.ifp (by omega) (Ev.someb (fun _ => of_eq _ _ _) ?_))))
    rw [rdn l i hi2, he, leastL, w64s (by omega)]
    by_cases h : (ofV F L l[i]).2.2.2 = 0
    · rw [if_pos h]
      exact Ev.ifp h (ih (i + 1) _ _ (by omega) (by omega))
    · rw [if_neg h]
      exact Ev.ifn h (Ev.now _)
theorem least_ev (F : List ByteArray) (L : List S53) (l : List Int) : Ev (fun k => feature_Least.f k F L l) (leastV F L l) := by
  unfold leastV
  refine Ev.someb (fun _ => rfl) ?_
  rcases hc : checkB F L with _ | _
  · exact Ev.ifn (by decide) (Ev.now _)
  · refine Ev.ifp rfl ?_
    rw [if_pos rfl]
    by_cases h1 : 128 < l.length
    · rw [if_pos h1]
      exact Ev.ifp (by omega) (Ev.now _)
    · rw [if_neg h1]
      refine Ev.ifn (by omega) ?_
      by_cases h2 : l.length = 0
      · rw [if_pos h2]
        exact Ev.ifp (by omega) (Ev.now _)
      · rw [if_neg h2]
        exact Ev.ifn (by omega) (least_l0 F L l (by omega) l.length 0 _ _ rfl (by omega))
end Go.Proofs.YtjnikjnkmcbjfaaDoor.X
