/- The plain law: from some number of rounds on. Words for reading what was printed. -/
import Derived.Test.YtjnikjnkmcbjfabDoorX0
import Derived.IntWalk
namespace Go.Proofs.YtjnikjnkmcbjfabDoor.X
open Go.RowKit Go.Proofs.YtjnikjnkmcbjfabDoorW.PrintWords Go.Proofs.YtjnikjnkmcbjfabDoorW.PrintLast Go.Proofs.YtjnikjnkmcbjfabDoorW.PrintMore
theorem w64 {n : Int} (h : -9223372036854775808 ≤ n ∧ n ≤ 9223372036854775807) : wrap64 n = n := IntWalk.wrap64_in n h
theorem w64s {n : Nat} (h : n ≤ 1000000000000) : wrap64 ((n : Int) + 1) = ((n + 1 : Nat) : Int) := by rw [w64 (by omega)]; omega
theorem Ev.ifp {α : Type} {c : Prop} [Decidable c] {a b : Nat → Option α} {r : α} (h : c) (k : Ev a r) : Ev (fun n => if c then a n else b n) r := by simpa only [if_pos h] using k
theorem Ev.ifn {α : Type} {c : Prop} [Decidable c] {a b : Nat → Option α} {r : α} (h : ¬ c) (k : Ev b r) : Ev (fun n => if c then a n else b n) r := by simpa only [if_neg h] using k
theorem Ev.ret {α : Type} {r : α} {q : α} (h : q = r) : Ev (fun _ => some q) r := h ▸ Ev.now q
theorem Ev.someb {α β : Type} {g : Nat → Option α} {f : Nat → α → Option β} {a : α} {r : β} (h : ∀ n, g n = some a) (k : Ev (fun n => f n a) r) : Ev (fun n => (g n).bind (f n)) r := by
  refine Ev.congr (fun n => ?_) k
  rw [h n]
  rfl
theorem rdn (xs : List Int) (i : Nat) (h : i < xs.length) : rd xs (i : Int) = xs[i] := by simp [rd, List.getD_eq_getElem?_getD, h]
theorem mem_runes (L : List S91) (r : Int) : r ∈ L.map (·.f0) ↔ ∃ j, j < L.length ∧ (rd_T91 L (j : Int)).f0 = r := by
  rw [List.mem_map]
  constructor
  · rintro ⟨x, hx, rfl⟩
    obtain ⟨j, hj, rfl⟩ := List.getElem_of_mem hx
    exact ⟨j, hj, by simp [rd_T91, hj]⟩
  · rintro ⟨j, hj, rfl⟩
    exact ⟨L[j], List.getElem_mem hj, by simp [rd_T91, hj]⟩
end Go.Proofs.YtjnikjnkmcbjfabDoor.X
