/- What a row hands in, opened: a row of runes. -/
import Derived.Test.YtjnikjnkmcbjfaaDoorFrame
namespace Go.Proofs.YtjnikjnkmcbjfaaDoor.X
open Go.ChangeShapes Go.WideShapes Go.ChangeAt Go.RowKit Go.Lib Go.Proofs.YtjnikjnkmcbjfaaDoorW.PrintWords Go.Proofs.YtjnikjnkmcbjfaaDoorW.PrintLast Go.Proofs.YtjnikjnkmcbjfaaDoorW.PrintMore
section
variable {H : Type} {enc : TypeId × Value → H} {W : World}
set_option maxRecDepth 100000 in
/-- A row of runes that was handed in. -/
theorem open_runes {base : Nat} {v : Value} {d : DataW H} {ps : List MemPlace} (hv : Value.okWide Tryd.prog W .any base 37 v) (h : DataW.Trod enc Tryd.prog W 0 (fun _ => true) true 37 v d ps) :
    ∃ (A : Option Addr) (c : Nat) (l : List Int), v = .slice A l.length c ∧ l.length ≤ c ∧ Kd.C (Kd.int .i32) W A l.length l ∧ (∀ y ∈ l, (Lit.int .i32 y).wf = true) ∧ ∀ x ∈ ps, x.block < W.heap.size := by
  obtain ⟨a0, n0, c0, rfl⟩ := okWide_slice Tryd.underlying37 hv
  have hlt : ∀ x ∈ ps, x.block < W.heap.size := by obtain ⟨m, hm⟩ := h; exact DataW.trod_lt m _ _ _ hm
  obtain ⟨fuel, hf⟩ := h
  have hf' : DataW.trod enc Tryd.prog W 0 (fun _ => true) true fuel 37 [.slice a0 n0 c0] = some (d, ps) := hf
  rcases Deep.open_slice1 Tryd.underlying37 cellsI32 hf' with ⟨e, _⟩ | ⟨a, len, cap, m, n, V, D, Pl, e, _, hl, hm, hmm, _, hx⟩
  · obtain ⟨rfl, rfl, rfl⟩ : a0 = none ∧ n0 = 0 ∧ c0 = 0 := by simpa using e
    exact ⟨none, 0, [], rfl, Nat.le_refl _, C_nil _ _, fun y hy => absurd hy (List.not_mem_nil), hlt⟩
  · obtain ⟨rfl, rfl, rfl⟩ : a0 = some a ∧ n0 = len ∧ c0 = cap := by simpa using e
    have hmc : m = c0 := by simpa using hmm
    have each : ∀ i, ∃ y : Int, i < m → W.cell? (a.add i) = some (.int .i32 y) ∧ (Lit.int .i32 y).wf = true := fun i => by
      by_cases hi : i < m
      · obtain ⟨h1, h2⟩ := hx i hi
        obtain ⟨y, e0, _, w0⟩ := DataW.trod_int Tryd.underlying21 h2
        have g0 : V i = .int .i32 y := by simpa using e0
        exact ⟨y, fun _ => ⟨by rw [h1, g0], w0⟩⟩
      · exact ⟨0, fun h => absurd h hi⟩
    obtain ⟨f, hf⟩ := Classical.skolem.1 each
    refine ⟨some a, c0, (List.range n0).map f, by simp, by simpa using hl, ?_, fun y hy => ?_, hlt⟩
    · refine Kd.C_of_reads (enc := Value.int .i32) (d := (0 : Int)) (h1 := fun _ => rfl) ⟨by simp, by simp only [List.length_map, List.length_range]; unfold maxLen at hm; omega, fun _ => ⟨a, rfl, fun j hj => ?_⟩⟩
      simp only [List.length_map, List.length_range] at hj
      rw [(hf j (by omega)).1]
      simp [List.getD_eq_getElem?_getD, hj]
    · obtain ⟨j, hj, rfl⟩ := List.mem_map.1 hy
      exact (hf j (by have := List.mem_range.1 hj; omega)).2
set_option maxRecDepth 100000 in
/-- It reads behind the call as it did. -/
theorem back_runes {v : Value} {d : DataW H} {ps : List MemPlace} {W' : World} (h : DataW.Trod enc Tryd.prog W 0 (fun _ => true) true 37 v d ps) (hb : Below W.heap.size W W') (hlt : ∀ x ∈ ps, x.block < W.heap.size) :
    DataW.Trod enc Tryd.prog W' 0 (fun b => decide (b < W.heap.size)) true 37 v d ps := Below.trod laidOut (by kernel_rfl) (of_decide_eq_true (by kernel_rfl)) h hb hlt
end
end Go.Proofs.YtjnikjnkmcbjfaaDoor.X
