/- The plain law of DoubleRuns: what the law's function computes is true. -/
import Derived.Test.YtjnikjnkmcbjfaaDoorPDouble
import Derived.Test.YtjnikjnkmcbjfaaDoorX24
namespace Go.Proofs.YtjnikjnkmcbjfaaDoor.X
open Go.RowKit Go.Proofs.YtjnikjnkmcbjfaaDoorW.PrintWords Go.Proofs.YtjnikjnkmcbjfaaDoorW.PrintLast Go.Proofs.YtjnikjnkmcbjfaaDoorW.PrintMore
theorem doubleRuns_l0 (F : List ByteArray) (L : List S53) (s : ByteArray) : ∀ (d i : Nat) (x6 : List S35), x6.length ≤ 64 → x6.length - i = d → i ≤ x6.length → Ev (fun k => cognatelaw15_DoubleRuns.l0 k s x6 (runsOf F L s).1 true (i : Int) F L) true := by
  intro d
  induction d with
  | zero =>
    intro i x6 h6 hd hi
    refine Ev.step (fun k => by rw [cognatelaw15_DoubleRuns.l0]) (Ev.ifn (by omega) (Ev.bind (runs_ev F L s) (Ev.ifp rfl (Ev.bind (spans_ev _ ?_) (Ev.now _)))))
    have := runsOf_len F L s
    omega
  | succ d ih =>
    intro i x6 h6 hd hi
    refine Ev.step (fun k => by rw [cognatelaw15_DoubleRuns.l0]) (Ev.ifp (by omega) (Ev.ifp (by omega) ?_))
    rw [w64s (by omega)]
    exact ih (i + 1) _ (by rw [List.length_set]; omega) (by rw [List.length_set]; omega) (by rw [List.length_set]; omega)
theorem doubleRuns_law (F : List ByteArray) (L : List S53) (s : ByteArray) : ∃ k, cognatelaw15_DoubleRuns.f k F L s = some true := by
  refine Ev.rounds ?_
  have hl := runsOf_len F L s
  refine Ev.bind awake_ev (Ev.ifp rfl (Ev.bind (runs_ev F L s) (Ev.bind (refRuns_ev F L s) (Ev.bind (period_ev F L s) (Ev.bind (refPeriod_ev F L s) (Ev.bind (spans_ev _ (by omega)) (Ev.ifp rfl (Ev.ifp rfl (Ev.ifp rfl ?_)))))))))
  rw [beq_self_eq_true]
  refine Ev.step (fun k => by rw [cognatelaw15_DoubleRuns.j0]) ?_
  exact doubleRuns_l0 F L s _ 0 _ hl rfl (Nat.zero_le _)
end Go.Proofs.YtjnikjnkmcbjfaaDoor.X
