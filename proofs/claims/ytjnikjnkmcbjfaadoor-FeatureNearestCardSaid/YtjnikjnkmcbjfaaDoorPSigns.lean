/- The plain law: for how many of 24 features two letters' signs are unlike, as the law counts them. -/
import Derived.Test.YtjnikjnkmcbjfaaDoorPFeat
import Derived.Test.YtjnikjnkmcbjfaaDoorX14
namespace Go.Proofs.YtjnikjnkmcbjfaaDoor.X
open Go.RowKit Go.Proofs.YtjnikjnkmcbjfaaDoorW.PrintWords Go.Proofs.YtjnikjnkmcbjfaaDoorW.PrintLast Go.Proofs.YtjnikjnkmcbjfaaDoorW.PrintMore
theorem cnt_succ (k p m q n : Nat) : cnt (k + 1) p m q n = cnt k p m q n + (if ((p.testBit k != q.testBit k) || (m.testBit k != n.testBit k)) = true then 1 else 0) := by
  unfold cnt
  rw [List.range_succ, List.countP_append, List.countP_singleton]
theorem signs_l0 (p m q n : Nat) (x0 : Int) (hp : p < 4294967296) (hm : m < 4294967296) (hq : q < 4294967296) (hn : n < 4294967296) : ∀ (d i : Nat), 24 - i = d → i ≤ 24 → Ev (fun k => cognatelaw02_signs.l0 k (q : Int) (n : Int) ((cnt i p m q n : Nat) : Int) (i : Int) x0 (p : Int) (m : Int)) ((cnt 24 p m q n : Nat) : Int) := by
  intro d
  induction d with
  | zero =>
    intro i hd hi
    obtain rfl : i = 24 := by omega
    exact Ev.step (fun k => by rw [cognatelaw02_signs.l0]) (Ev.ifn (by omega) (Ev.now _))
  | succ d ih =>
    intro i hd hi
    have g1 : (i : Int) < 24 := by omega
    have g2 : 0 ≤ (i : Int) := by omega
    have g3 : i ≤ 32 := by omega
    have hc := cnt_le i p m q n
    have k1 : i ≤ 1000000000000 := by omega
    have k2 : cnt i p m q n ≤ 1000000000000 := by omega
    have k3 : 0 ≤ (i : Int) ∧ (i : Int) ≤ 18446744073709551615 := by omega
    have hr := ih (i + 1) (by omega) (by omega)
    have g4 : wrap64 (((cnt i p m q n : Nat) : Int) + 1) = ((cnt i p m q n + 1 : Nat) : Int) := w64s k2
    have hw : IntKind.u64.wrap (i : Int) = (i : Int) := IntWalk.u64_in _ k3
    have hi1 : wrap64 ((i : Int) + 1) = ((i + 1 : Nat) : Int) := w64s k1
    have hs := cnt_succ i p m q n
    refine Ev.step (fun k => by rw [cognatelaw02_signs.l0]) (Ev.ifp g1 ?_)
    rw [hw, bit_and p i hp g3, bit_and q i hq g3, bit_and m i hm g3, bit_and n i hn g3, hi1]
    refine Ev.ifp g2 ?_
    by_cases h1 : p.testBit i = q.testBit i
    · refine Ev.ifp (by rw [h1]) ?_
      by_cases h2 : m.testBit i = n.testBit i
      · refine Ev.ifp (by rw [h2]) ?_
        rw [h1, h2] at hs
        simp at hs
        rw [hs] at hr
        exact hr
      · refine Ev.ifn (fun e => h2 ?_) ?_
        · cases ha : m.testBit i <;> cases hb : n.testBit i <;> simp_all
        · have : ((p.testBit i != q.testBit i) || (m.testBit i != n.testBit i)) = true := by simp [h2]
          rw [if_pos this] at hs
          rw [hs] at hr
          rw [g4]
          exact hr
    · refine Ev.ifn (fun e => h1 ?_) ?_
      · cases ha : p.testBit i <;> cases hb : q.testBit i <;> simp_all
      · have : ((p.testBit i != q.testBit i) || (m.testBit i != n.testBit i)) = true := by simp [h1]
        rw [if_pos this] at hs
        rw [hs] at hr
        rw [g4]
        exact hr
theorem signs_ev (p m q n : Nat) (x0 : Int) (hp : p < 4294967296) (hm : m < 4294967296) (hq : q < 4294967296) (hn : n < 4294967296) : Ev (fun k => cognatelaw02_signs.f k x0 (p : Int) (m : Int) (q : Int) (n : Int)) ((cnt 24 p m q n : Nat) : Int) :=
  signs_l0 p m q n x0 hp hm hq hn 24 0 rfl (by omega)
end Go.Proofs.YtjnikjnkmcbjfaaDoor.X
