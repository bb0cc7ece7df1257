/- What a row hands in, opened: rows of pairs and of texts. -/
import Derived.Test.YtjnikjnkmcbjfabDoorFrame
namespace Go.Proofs.YtjnikjnkmcbjfabDoor.X
open Go.ChangeShapes Go.WideShapes Go.ChangeAt Go.RowKit Go.Lib Go.Proofs.YtjnikjnkmcbjfabDoorW.PrintWords Go.Proofs.YtjnikjnkmcbjfabDoorW.PrintLast Go.Proofs.YtjnikjnkmcbjfabDoorW.PrintMore
theorem cellsPair : Tryd.prog.cellsOf 44 = 2 := by kernel_rfl
section
variable {H : Type} {enc : TypeId × Value → H} {W : World}
set_option maxRecDepth 100000 in
theorem open_pairs {base : Nat} {v : Value} {d : DataW H} {ps : List MemPlace} (hv : Value.okWide Tryd.prog W .any base 33 v) (h : DataW.Trod enc Tryd.prog W 0 (fun _ => true) true 33 v d ps) :
    ∃ (A : Option Addr) (c : Nat) (l : List S44), v = .slice A l.length c ∧ l.length ≤ c ∧ Kd.C k44 W A l.length l ∧ (∀ y ∈ l, (Lit.int .i32 y.f0).wf = true ∧ (Lit.int .i32 y.f1).wf = true) ∧ ∀ x ∈ ps, x.block < W.heap.size := by
  obtain ⟨a0, n0, c0, rfl⟩ := okWide_slice Tryd.underlying33 hv
  have hlt : ∀ x ∈ ps, x.block < W.heap.size := by obtain ⟨m, hm⟩ := h; exact DataW.trod_lt m _ _ _ hm
  obtain ⟨fuel, hf⟩ := h
  have hf' : DataW.trod enc Tryd.prog W 0 (fun _ => true) true fuel 33 [.slice a0 n0 c0] = some (d, ps) := hf
  rcases Deep.open_slice Tryd.underlying33 hf' with ⟨e, _⟩ | ⟨a, len, cap, m, n, D, Pl, e, _, hl, hm, hmm, _, hx⟩
  · obtain ⟨rfl, rfl, rfl⟩ : a0 = none ∧ n0 = 0 ∧ c0 = 0 := by simpa using e
    exact ⟨none, 0, [], rfl, Nat.le_refl _, C_nil _ _, fun y hy => absurd hy (List.not_mem_nil), hlt⟩
  · obtain ⟨rfl, rfl, rfl⟩ : a0 = some a ∧ n0 = len ∧ c0 = cap := by simpa using e
    have hmc : m = c0 := by simpa using hmm
    have each : ∀ i, ∃ y : S44, i < m → (∀ j u, ([.int .i32 y.f0, .int .i32 y.f1] : List Value)[j]? = some u → W.cell? (a.add (i * 2 + j)) = some u) ∧ (Lit.int .i32 y.f0).wf = true ∧ (Lit.int .i32 y.f1).wf = true := fun i => by
      by_cases hi : i < m
      · obtain ⟨cs', hc, ht⟩ := hx i hi
        obtain ⟨y0, y1, n', _, hlen, h0, h1⟩ := trod_struct2 Tryd.underlying44 ht
        simp only [cellsI32] at h0 h1
        obtain ⟨x0, e0, _, w0⟩ := DataW.trod_int Tryd.underlying21 h0
        obtain ⟨x1, e1, _, w1⟩ := DataW.trod_int Tryd.underlying21 h1
        rw [cellsPair] at hlen hc
        match cs', hlen with
        | [u0, u1], _ =>
          have g0 : u0 = .int .i32 x0 := by simpa using e0
          have g1 : u1 = .int .i32 x1 := by simpa using e1
          subst g0 g1
          refine ⟨⟨x0, x1⟩, fun _ => ⟨fun j u hu => ?_, w0, w1⟩⟩
          unfold World.cells? at hc
          rw [if_pos (Nat.zero_le _)] at hc
          have hj : j < 2 := (List.getElem?_eq_some_iff.1 hu).1
          obtain ⟨b, hb, hb2⟩ := mapM_at hc j j (by simp [hj])
          rw [hu] at hb
          obtain rfl := Option.some.inj hb
          rw [Go.Deep.add_add] at hb2
          exact hb2
      · exact ⟨⟨0, 0⟩, fun h => absurd h hi⟩
    obtain ⟨f, hf⟩ := Classical.skolem.1 each
    refine ⟨some a, c0, (List.range n0).map f, by simp, by simpa using hl, ⟨rfl, by simp only [List.length_map, List.length_range]; unfold maxLen at hm; omega, fun _ => ⟨a, rfl, fun j p hj => ?_⟩⟩, fun y hy => ?_, hlt⟩
    · obtain ⟨hj1, hj2⟩ := List.getElem?_eq_some_iff.1 hj
      simp only [List.length_map, List.length_range] at hj1
      simp only [List.getElem_map, List.getElem_range] at hj2
      subst hj2
      exact ⟨_, rfl, k44_mk W _, (hf j (by omega)).1⟩
    · obtain ⟨j, hj, rfl⟩ := List.mem_map.1 hy
      exact (hf j (by have := List.mem_range.1 hj; omega)).2
set_option maxRecDepth 100000 in
theorem back_pairs {v : Value} {d : DataW H} {ps : List MemPlace} {W' : World} (h : DataW.Trod enc Tryd.prog W 0 (fun _ => true) true 33 v d ps) (hb : Below W.heap.size W W') (hlt : ∀ x ∈ ps, x.block < W.heap.size) :
    DataW.Trod enc Tryd.prog W' 0 (fun b => decide (b < W.heap.size)) true 33 v d ps := Below.trod laidOut (by kernel_rfl) (of_decide_eq_true (by kernel_rfl)) h hb hlt
set_option maxRecDepth 100000 in
theorem open_texts {base : Nat} {v : Value} {d : DataW H} {ps : List MemPlace} (hv : Value.okWide Tryd.prog W .any base 22 v) (h : DataW.Trod enc Tryd.prog W 0 (fun _ => true) true 22 v d ps) :
    ∃ (A : Option Addr) (c : Nat) (l : List ByteArray), v = .slice A l.length c ∧ l.length ≤ c ∧ Kd.C Kd.string W A l.length l ∧ ∀ x ∈ ps, x.block < W.heap.size := by
  obtain ⟨a0, n0, c0, rfl⟩ := okWide_slice Tryd.underlying22 hv
  have hlt : ∀ x ∈ ps, x.block < W.heap.size := by obtain ⟨m, hm⟩ := h; exact DataW.trod_lt m _ _ _ hm
  obtain ⟨fuel, hf⟩ := h
  have hf' : DataW.trod enc Tryd.prog W 0 (fun _ => true) true fuel 22 [.slice a0 n0 c0] = some (d, ps) := hf
  obtain ⟨A, c, l, e, hl, hC⟩ := open_features hf'
  obtain ⟨rfl, rfl, rfl⟩ : a0 = A ∧ n0 = l.length ∧ c0 = c := by simpa using e
  exact ⟨a0, c0, l, rfl, hl, hC, hlt⟩
set_option maxRecDepth 100000 in
theorem back_texts {v : Value} {d : DataW H} {ps : List MemPlace} {W' : World} (h : DataW.Trod enc Tryd.prog W 0 (fun _ => true) true 22 v d ps) (hb : Below W.heap.size W W') (hlt : ∀ x ∈ ps, x.block < W.heap.size) :
    DataW.Trod enc Tryd.prog W' 0 (fun b => decide (b < W.heap.size)) true 22 v d ps := Below.trod laidOut (by kernel_rfl) (of_decide_eq_true (by kernel_rfl)) h hb hlt
theorem sized_slice {t e : TypeId} (hu : Tryd.prog.underlying t = some (.slice e)) {B : Nat} (hB : Tryd.prog.bytesOf e = B) {A : Option Addr} {n c : Nat} {d : DataW H} {ps : List MemPlace} (h : DataW.Trod enc Tryd.prog W 0 (fun _ => true) true t (.slice A n c) d ps) {ts : List TypeId} {ds : List (DataW H)} {j : Nat}
    (hsz : (DataW.weightsEach Tryd.prog ts ds).all (· ≤ reachBytes) = true) (ht : ts[j]? = some t) (hd : ds[j]? = some d) : n * B ≤ 140737488351232 := by
  obtain ⟨fuel, hf⟩ := h
  have hf' : DataW.trod enc Tryd.prog W 0 (fun _ => true) true fuel t [.slice A n c] = some (d, ps) := hf
  exact slice_weight hu hB hf' (fun k hk => by
    have := List.all_eq_true.1 hsz _ (DataW.weights_mem_each ht hd k hk)
    simpa using this)
end
end Go.Proofs.YtjnikjnkmcbjfabDoor.X
