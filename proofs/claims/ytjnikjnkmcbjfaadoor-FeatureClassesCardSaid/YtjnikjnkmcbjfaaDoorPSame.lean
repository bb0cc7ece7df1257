/- The plain law: an alphabet is alike itself; a row of runes is the same as itself. -/
import Derived.Test.YtjnikjnkmcbjfaaDoorPEv
import Derived.Test.YtjnikjnkmcbjfaaDoorX11
namespace Go.Proofs.YtjnikjnkmcbjfaaDoor.X
open Go.RowKit Go.Proofs.YtjnikjnkmcbjfaaDoorW.PrintWords Go.Proofs.YtjnikjnkmcbjfaaDoorW.PrintLast Go.Proofs.YtjnikjnkmcbjfaaDoorW.PrintMore
theorem same_l0 (l : List Int) (hl : l.length ≤ 1000000000000) : ∀ (d i : Nat), l.length - i = d → i ≤ l.length → Ev (fun k => cognateref02_Same.l0 k l l (i : Int)) true := by
  intro d
  induction d with
  | zero => exact fun i hd hi => Ev.step (fun k => by rw [cognateref02_Same.l0]) (Ev.ifn (by omega) (Ev.now _))
  | succ d ih =>
    intro i hd hi
    have w1 : i ≤ 1000000000000 := by omega
    refine Ev.step (fun k => by rw [cognateref02_Same.l0]) (Ev.ifp (by omega) (Ev.ifp (by omega) (Ev.ifp (by omega) (Ev.ifp rfl ?_))))
    rw [w64s w1]
    exact ih (i + 1) (by omega) (by omega)
theorem same_ev (l : List Int) (hl : l.length ≤ 1000000000000) : Ev (fun k => cognateref02_Same.f k l l) true := Ev.ifp rfl (same_l0 l hl l.length 0 rfl (by omega))
theorem alike_l1 (F : List ByteArray) (L : List S53) (hL : L.length ≤ 20000000000000) : ∀ (d i : Nat), L.length - i = d → i ≤ L.length → Ev (fun k => cognatelaw02_alike.l1 k (i : Int) F L F L) true := by
  intro d
  induction d with
  | zero => exact fun i hd hi => Ev.step (fun k => by rw [cognatelaw02_alike.l1]) (Ev.ifn (by omega) (Ev.now _))
  | succ d ih =>
    intro i hd hi
    have w1 : wrap64 ((i : Int) + 1) = ((i + 1 : Nat) : Int) := by rw [w64 (by omega)]; omega
    refine Ev.step (fun k => by rw [cognatelaw02_alike.l1]) (Ev.ifp (by clear w1; omega) (Ev.ifp (by clear w1; omega) (Ev.ifp (by clear w1; omega) (Ev.ifn (by simp) ?_))))
    rw [w1]
    exact ih (i + 1) (by clear w1; omega) (by clear w1; omega)
theorem alike_l0 (F : List ByteArray) (L : List S53) (hF : F.length ≤ 20000000000000) (hL : L.length ≤ 20000000000000) : ∀ (d i : Nat), F.length - i = d → i ≤ F.length → Ev (fun k => cognatelaw02_alike.l0 k (i : Int) F L F L) true := by
  intro d
  induction d with
  | zero =>
    intro i hd hi
    refine Ev.step (fun k => by rw [cognatelaw02_alike.l0]) (Ev.ifn (by omega) ?_)
    exact alike_l1 F L hL L.length 0 rfl (by omega)
  | succ d ih =>
    intro i hd hi
    have w1 : wrap64 ((i : Int) + 1) = ((i + 1 : Nat) : Int) := by rw [w64 (by omega)]; omega
    refine Ev.step (fun k => by rw [cognatelaw02_alike.l0]) (Ev.ifp (by clear w1; omega) (Ev.ifp (by clear w1; omega) (Ev.ifp (by clear w1; omega) (Ev.ifp rfl ?_))))
    rw [w1]
    exact ih (i + 1) (by clear w1; omega) (by clear w1; omega)
theorem alike_ev (F : List ByteArray) (L : List S53) (hF : F.length ≤ 20000000000000) (hL : L.length ≤ 20000000000000) : Ev (fun k => cognatelaw02_alike.f k F L F L) true := by
  refine Ev.ifp rfl (Ev.step (fun k => by rw [cognatelaw02_alike.j0]) (Ev.ifn (by simp) ?_))
  exact alike_l0 F L hF hL F.length 0 rfl (by omega)
theorem twin_eq (F : List ByteArray) (L : List S53) (hF : F.length < 8796093022208) (hL : L.length < 11728124029610) : cognatelaw02_twin.f F L = some (F, L) := by
  unfold cognatelaw02_twin.f
  rw [if_pos (by simpa using hF), if_pos (by simpa using hL)]
  rfl
end Go.Proofs.YtjnikjnkmcbjfaaDoor.X
