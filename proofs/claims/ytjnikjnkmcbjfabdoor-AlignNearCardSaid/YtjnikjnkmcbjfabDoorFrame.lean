/- What a row hands in, opened: an alphabet, a text, numbers; and utf8's two tables as laid. -/
import Derived.Test.YtjnikjnkmcbjfabDoorX0
import Derived.Test.YtjnikjnkmcbjfabDoorShelf0
import Derived.Shelf.Unicode.DecodeSlow
import Derived.Test.YtjnikjnkmcbjfabDoorRows
import Derived.Lib.LaidU8
import Derived.Lib.LaidIn
import GoSem.PinnedTables
import Derived.Carry
import Derived.DataElems
import Derived.Deep.DeepHandedRow
import Derived.Deep.DeepWitnessRowRef
import Derived.Deep.Strs
import Derived.Deep.Slices
import Derived.ProofKit
import Derived.SizedLaws
import Derived.WalkKit
import Derived.OpenShut
import Derived.ShutString
namespace Go.Proofs.YtjnikjnkmcbjfabDoor.X
open Go.ChangeShapes Go.WideShapes Go.ChangeAt Go.RowKit Go.Lib Go.Proofs.YtjnikjnkmcbjfabDoorW.PrintWords Go.Proofs.YtjnikjnkmcbjfabDoorW.PrintLast Go.Proofs.YtjnikjnkmcbjfabDoorW.PrintMore
open Go.ChangeMaps (open_string shut_string)
theorem own : ownKnob Tryd.prog.godebug = none := by kernel_rfl
theorem laidOut : laidOutB Tryd.prog = true := by kernel_rfl
theorem cellsLetter : Tryd.prog.cellsOf 91 = 3 := by kernel_rfl
theorem cellsAlphabet : Tryd.prog.cellsOf 25 = 2 := by kernel_rfl
theorem cellsString : Tryd.prog.cellsOf 9 = 1 := by kernel_rfl
theorem cellsI32 : Tryd.prog.cellsOf 21 = 1 := by kernel_rfl
theorem cellsU32 : Tryd.prog.cellsOf 51 = 1 := by kernel_rfl
theorem cellsStrs : Tryd.prog.cellsOf 22 = 1 := by kernel_rfl
theorem cellsLetters : Tryd.prog.cellsOf 23 = 1 := by kernel_rfl
section
variable {H : Type} {enc : TypeId × Value → H} {W : World}
theorem C_nil {α : Type} (d : Kd α) (w : World) : Kd.C d w none 0 [] := ⟨rfl, by omega, fun h => absurd h (by omega)⟩
theorem open_features {fuel : Nat} {cs : List Value} {x : DataW H × List MemPlace} (h : DataW.trod enc Tryd.prog W 0 (fun _ => true) true fuel 22 cs = some x) :
    ∃ (A : Option Addr) (c : Nat) (l : List ByteArray), cs = [.slice A l.length c] ∧ l.length ≤ c ∧ Kd.C Kd.string W A l.length l := by
  rcases Deep.open_strs Tryd.underlying22 Tryd.underlying9 cellsString h with ⟨rfl, _⟩ | ⟨a, len, cap, m, Sx, rfl, _, hl, hm, hmm, _, hx⟩
  · exact ⟨none, 0, [], rfl, Nat.le_refl _, C_nil _ _⟩
  · have hmc : m = cap := by simpa using hmm
    refine ⟨some a, cap, (List.range len).map Sx, by simp, by simpa using hl, ?_⟩
    refine Kd.C_of_reads (enc := Value.string) (d := ByteArray.empty) (h1 := fun _ => rfl) ⟨by simp, by simp only [List.length_map, List.length_range]; unfold maxLen at hm; omega, fun _ => ⟨a, rfl, fun j hj => ?_⟩⟩
    simp only [List.length_map, List.length_range] at hj
    rw [(hx j (by omega)).1]
    simp [List.getD_eq_getElem?_getD, hj]
theorem open_letters {fuel : Nat} {cs : List Value} {x : DataW H × List MemPlace} (h : DataW.trod enc Tryd.prog W 0 (fun _ => true) true fuel 23 cs = some x) :
    ∃ (A : Option Addr) (c : Nat) (l : List S91), cs = [.slice A l.length c] ∧ l.length ≤ c ∧ Kd.C k91 W A l.length l ∧ ∀ y ∈ l, (Lit.int .i32 y.f0).wf = true ∧ (Lit.int .u32 y.f1).wf = true ∧ (Lit.int .u32 y.f2).wf = true := by
  rcases Deep.open_slice Tryd.underlying23 h with ⟨rfl, _⟩ | ⟨a, len, cap, m, n, D, Pl, rfl, _, hl, hm, hmm, _, hx⟩
  · exact ⟨none, 0, [], rfl, Nat.le_refl _, C_nil _ _, fun y hy => by cases hy⟩
  · have hmc : m = cap := by simpa using hmm
    have each : ∀ i, ∃ y : S91, i < m → (∀ j u, ([.int .i32 y.f0, .int .u32 y.f1, .int .u32 y.f2] : List Value)[j]? = some u → W.cell? (a.add (i * 3 + j)) = some u) ∧ (Lit.int .i32 y.f0).wf = true ∧ (Lit.int .u32 y.f1).wf = true ∧ (Lit.int .u32 y.f2).wf = true := fun i => by
      by_cases hi : i < m
      · obtain ⟨cs', hc, ht⟩ := hx i hi
        obtain ⟨y0, y1, y2, n', _, hlen, h0, h1, h2⟩ := Deep.trod_struct3 Tryd.underlying91 ht
        simp only [cellsI32, cellsU32] at h0 h1 h2
        obtain ⟨x0, e0, _, w0⟩ := DataW.trod_int Tryd.underlying21 h0
        obtain ⟨x1, e1, _, w1⟩ := DataW.trod_int Tryd.underlying51 h1
        obtain ⟨x2, e2, _, w2⟩ := DataW.trod_int Tryd.underlying51 h2
        rw [cellsLetter] at hlen hc
        match cs', hlen with
        | [u0, u1, u2], _ =>
          have g0 : u0 = .int .i32 x0 := by simpa using e0
          have g1 : u1 = .int .u32 x1 := by simpa using e1
          have g2 : u2 = .int .u32 x2 := by simpa using e2
          subst g0 g1 g2
          refine ⟨⟨x0, x1, x2⟩, fun _ => ⟨fun j u hu => ?_, w0, w1, w2⟩⟩
          unfold World.cells? at hc
          rw [if_pos (Nat.zero_le _)] at hc
          have hj : j < 3 := (List.getElem?_eq_some_iff.1 hu).1
          obtain ⟨b, hb, hb2⟩ := mapM_at hc j j (by simp [hj])
          rw [hu] at hb
          obtain rfl := Option.some.inj hb
          rw [Go.Deep.add_add] at hb2
          exact hb2
      · exact ⟨⟨0, 0, 0⟩, fun h => absurd h hi⟩
    obtain ⟨f, hf⟩ := Classical.skolem.1 each
    refine ⟨some a, cap, (List.range len).map f, by simp, by simpa using hl, ⟨rfl, by simp only [List.length_map, List.length_range]; unfold maxLen at hm; omega, fun _ => ⟨a, rfl, fun j p hj => ?_⟩⟩, fun y hy => ?_⟩
    · obtain ⟨hj1, hj2⟩ := List.getElem?_eq_some_iff.1 hj
      simp only [List.length_map, List.length_range] at hj1
      simp only [List.getElem_map, List.getElem_range] at hj2
      subst hj2
      exact ⟨_, rfl, k91_mk W _, (hf j (by omega)).1⟩
    · obtain ⟨j, hj, rfl⟩ := List.mem_map.1 hy
      exact (hf j (by have := List.mem_range.1 hj; omega)).2
set_option maxRecDepth 100000 in
/-- An alphabet that was handed in. -/
theorem open_alphabet {base : Nat} {v : Value} {d : DataW H} {ps : List MemPlace} (hv : Value.okWide Tryd.prog W .any base 25 v) (h : DataW.Trod enc Tryd.prog W 0 (fun _ => true) true 25 v d ps) :
    ∃ (A0 : Option Addr) (c0 : Nat) (l0 : List ByteArray) (A1 : Option Addr) (c1 : Nat) (l1 : List S91), v = .agg #[.slice A0 l0.length c0, .slice A1 l1.length c1] ∧ l0.length ≤ c0 ∧ Kd.C Kd.string W A0 l0.length l0 ∧ l1.length ≤ c1 ∧ Kd.C k91 W A1 l1.length l1 ∧ (∀ y ∈ l1, (Lit.int .i32 y.f0).wf = true ∧ (Lit.int .u32 y.f1).wf = true ∧ (Lit.int .u32 y.f2).wf = true) ∧ ∀ x ∈ ps, x.block < W.heap.size := by
  obtain ⟨cs, rfl, hcs⟩ := okWide_struct Tryd.underlying25 hv
  have hlt : ∀ x ∈ ps, x.block < W.heap.size := by obtain ⟨m, hm⟩ := h; exact DataW.trod_lt m _ _ _ hm
  obtain ⟨fuel, hf⟩ := h
  obtain ⟨y0, y1, n, _, hlen, h0, h1⟩ := trod_struct2 Tryd.underlying25 hf
  simp only [cellsStrs, cellsLetters] at h0 h1
  obtain ⟨A0, c0, l0, e0, hl0, hC0⟩ := open_features h0
  obtain ⟨A1, c1, l1, e1, hl1, hC1, hw1⟩ := open_letters h1
  rw [cellsAlphabet] at hcs
  obtain ⟨cs⟩ := cs
  match cs, hcs with
  | [u0, u1], _ =>
    have g0 : u0 = .slice A0 l0.length c0 := by simpa [Value.cells] using e0
    have g1 : u1 = .slice A1 l1.length c1 := by simpa [Value.cells] using e1
    subst g0 g1
    exact ⟨A0, c0, l0, A1, c1, l1, rfl, hl0, hC0, hl1, hC1, hw1, hlt⟩
set_option maxRecDepth 100000 in
/-- An alphabet reads behind the call as it did. -/
theorem back_alphabet {v : Value} {d : DataW H} {ps : List MemPlace} {W' : World} (h : DataW.Trod enc Tryd.prog W 0 (fun _ => true) true 25 v d ps) (hb : Below W.heap.size W W') (hlt : ∀ x ∈ ps, x.block < W.heap.size) :
    DataW.Trod enc Tryd.prog W' 0 (fun b => decide (b < W.heap.size)) true 25 v d ps := Below.trod laidOut (by kernel_rfl) (of_decide_eq_true (by kernel_rfl)) h hb hlt
end
/-! ### the two tables -/
set_option maxRecDepth 100000 in
theorem pin_first : Go.Pinned.utf8First = firstData := by kernel_rfl
set_option maxRecDepth 100000 in
theorem accept_eq : (Rows.laid_unicode_utf8_acceptRanges : DataW Unit) = acceptData := by kernel_rfl
set_option maxRecDepth 100000 in
theorem u8extra : U8Extra Tryd.prog Tryd.lays260_ren := ⟨by kernel_rfl, by kernel_rfl, by kernel_rfl, by kernel_rfl, by kernel_rfl, by kernel_rfl, by kernel_rfl⟩
set_option maxRecDepth 100000 in
theorem tabs_of_laid {W : World} (h : laidMetH Tryd.prog [("unicode/utf8.acceptRanges", Rows.laid_unicode_utf8_acceptRanges), ("unicode/utf8.first", Rows.laid_unicode_utf8_first)] W) : Tabs W := by
  have h1 : VarReads Tryd.prog W "unicode/utf8.first" firstData := by
    rw [← pin_first]
    exact Lib.laidMet.reads h (.tail _ (.head _))
  have h2 : VarReads Tryd.prog W "unicode/utf8.acceptRanges" acceptData := by
    rw [← accept_eq]
    exact Lib.laidMet.reads h (.head _)
  exact utf8Tabs_of_reads Tryd.lays260 u8extra h1 h2
/-- The witness' world: the settled one, the two variables holding what their initialisers lay. -/
noncomputable def laidWorld (os : Os) : World :=
  let w0 := World.holding Tryd.prog os ⟨#[], #[], []⟩
  let put (h : Array Obj) (g : Nat) (cs : Array Value) : Array Obj := h.modify g fun
    | .cells _ t frozen => .cells cs t frozen
    | o => o
  let h1 := put w0.heap 0 (Lib.firstTab.map fun z => Value.int .u8 z).toArray
  let h2 := put h1 1 ((List.range 16).flatMap fun i => [Value.int .u8 (Lib.accLo i), Value.int .u8 (Lib.accHi i)]).toArray
  { w0 with heap := h2 }
set_option maxRecDepth 100000 in
theorem laid_met (os : Os) (args : Array Value) : laidMet Tryd.prog [("unicode/utf8.acceptRanges", Rows.laid_unicode_utf8_acceptRanges), ("unicode/utf8.first", Rows.laid_unicode_utf8_first)] ((laidWorld os).forCall (fun _ _ => 0) ⟨#[], args, []⟩).memory := by
  have e : (Rows.laid_unicode_utf8_first : DataW Unit) = firstData := pin_first
  rw [accept_eq, e]
  exact (LaidIn.of_run (l := [("unicode/utf8.acceptRanges", Lib.acceptData), ("unicode/utf8.first", Lib.firstData)]) [1, 0] 8 (by kernel_rfl) (by kernel_rfl) (by kernel_rfl) (by kernel_rfl)).met
section
variable {H : Type} {enc : TypeId × Value → H} {W : World}
set_option maxRecDepth 100000 in
/-- A row of runes that was handed in. -/
theorem open_runes {base : Nat} {v : Value} {d : DataW H} {ps : List MemPlace} (hv : Value.okWide Tryd.prog W .any base 60 v) (h : DataW.Trod enc Tryd.prog W 0 (fun _ => true) true 60 v d ps) :
    ∃ (A : Option Addr) (c : Nat) (l : List Int), v = .slice A l.length c ∧ l.length ≤ c ∧ Kd.C (Kd.int .i32) W A l.length l ∧ (∀ y ∈ l, (Lit.int .i32 y).wf = true) ∧ ∀ x ∈ ps, x.block < W.heap.size := by
  obtain ⟨a0, n0, c0, rfl⟩ := okWide_slice Tryd.underlying60 hv
  have hlt : ∀ x ∈ ps, x.block < W.heap.size := by obtain ⟨m, hm⟩ := h; exact DataW.trod_lt m _ _ _ hm
  obtain ⟨fuel, hf⟩ := h
  have hf' : DataW.trod enc Tryd.prog W 0 (fun _ => true) true fuel 60 [.slice a0 n0 c0] = some (d, ps) := hf
  rcases Deep.open_slice1 Tryd.underlying60 cellsI32 hf' with ⟨e, _⟩ | ⟨a, len, cap, m, n, V, D, Pl, e, _, hl, hm, hmm, _, hx⟩
  · obtain ⟨rfl, rfl, rfl⟩ : a0 = none ∧ n0 = 0 ∧ c0 = 0 := by simpa using e
    exact ⟨none, 0, [], rfl, Nat.le_refl _, C_nil _ _, fun y hy => absurd hy (List.not_mem_nil), hlt⟩
  · obtain ⟨rfl, rfl, rfl⟩ : a0 = some a ∧ n0 = len ∧ c0 = cap := by simpa using e
    have hmc : m = c0 := by simpa using hmm
    have each : ∀ i, ∃ y : Int, i < m → W.cell? (a.add i) = some (.int .i32 y) ∧ (Lit.int .i32 y).wf = true := fun i => by
      by_cases hi : i < m
      · obtain ⟨h1, h2⟩ := hx i hi
        obtain ⟨y, e0, _, w0⟩ := DataW.trod_int Tryd.underlying21 h2
        have g0 : V i = .int .i32 y := by simpa using e0
        exact ⟨y, fun _ => ⟨by rw [h1, g0], w0⟩⟩
      · exact ⟨0, fun h => absurd h hi⟩
    obtain ⟨f, hf⟩ := Classical.skolem.1 each
    refine ⟨some a, c0, (List.range n0).map f, by simp, by simpa using hl, ?_, fun y hy => ?_, hlt⟩
    · refine Kd.C_of_reads (enc := Value.int .i32) (d := (0 : Int)) (h1 := fun _ => rfl) ⟨by simp, by simp only [List.length_map, List.length_range]; unfold maxLen at hm; omega, fun _ => ⟨a, rfl, fun j hj => ?_⟩⟩
      simp only [List.length_map, List.length_range] at hj
      rw [(hf j (by omega)).1]
      simp [List.getD_eq_getElem?_getD, hj]
    · obtain ⟨j, hj, rfl⟩ := List.mem_map.1 hy
      exact (hf j (by have := List.mem_range.1 hj; omega)).2
set_option maxRecDepth 100000 in
/-- It reads behind the call as it did. -/
theorem back_runes {v : Value} {d : DataW H} {ps : List MemPlace} {W' : World} (h : DataW.Trod enc Tryd.prog W 0 (fun _ => true) true 60 v d ps) (hb : Below W.heap.size W W') (hlt : ∀ x ∈ ps, x.block < W.heap.size) :
    DataW.Trod enc Tryd.prog W' 0 (fun b => decide (b < W.heap.size)) true 60 v d ps := Below.trod laidOut (by kernel_rfl) (of_decide_eq_true (by kernel_rfl)) h hb hlt
end
section
variable {H : Type} {enc : TypeId × Value → H} {W : World}
theorem slice_weight {fuel : Nat} {t e : TypeId} (hu : Tryd.prog.underlying t = some (.slice e)) {B : Nat} (hB : Tryd.prog.bytesOf e = B) {A : Option Addr} {n c : Nat} {x : DataW H × List MemPlace} (h : DataW.trod enc Tryd.prog W 0 (fun _ => true) true fuel t [.slice A n c] = some x) (hR : ∀ k ∈ x.1.weights Tryd.prog t, k ≤ reachBytes) : n * B ≤ 140737488351232 := by
  rcases Deep.open_slice hu h with ⟨e0, _⟩ | ⟨a, len, cap, m, q, D, Pl, e0, _, hl, _, _, rfl, _⟩
  · obtain ⟨rfl, rfl, rfl⟩ : A = none ∧ n = 0 ∧ c = 0 := by simpa using e0
    omega
  · obtain ⟨rfl, rfl, rfl⟩ : A = some a ∧ n = len ∧ c = cap := by simpa using e0
    have h1 := hR ((n + (m - n)) * B) (by simp [DataW.weights, hu, hB])
    have h2 : n * B ≤ (n + (m - n)) * B := Nat.mul_le_mul_right _ (by omega)
    have h3 : reachBytes = 140737488351232 := by decide
    omega
set_option maxRecDepth 100000 in
theorem sized_alphabet {A0 A1 : Option Addr} {n0 c0 n1 c1 : Nat} {d : DataW H} {ps : List MemPlace} (h : DataW.Trod enc Tryd.prog W 0 (fun _ => true) true 25 (.agg #[.slice A0 n0 c0, .slice A1 n1 c1]) d ps) {ts : List TypeId} {ds : List (DataW H)} {j : Nat}
    (hsz : (DataW.weightsEach Tryd.prog ts ds).all (· ≤ reachBytes) = true) (ht : ts[j]? = some 25) (hd : ds[j]? = some d) : n0 * 16 ≤ 140737488351232 ∧ n1 * 12 ≤ 140737488351232 := by
  obtain ⟨fuel, hf⟩ := h
  obtain ⟨y0, y1, n, hx, hlen, h0, h1⟩ := trod_struct2 Tryd.underlying25 hf
  simp only [cellsStrs, cellsLetters] at h0 h1
  have hd2 : d = .agg [y0.1, y1.1] := (Prod.mk.inj hx).1
  have h0' : DataW.trod enc Tryd.prog W 0 (fun _ => true) true n 22 [.slice A0 n0 c0] = some y0 := h0
  have h1' : DataW.trod enc Tryd.prog W 0 (fun _ => true) true n 23 [.slice A1 n1 c1] = some y1 := h1
  have key : ∀ k ∈ d.weights Tryd.prog 25, k ≤ reachBytes := fun k hk => by
    have := List.all_eq_true.1 hsz _ (DataW.weights_mem_each ht hd k hk)
    simpa using this
  rw [hd2] at key
  have w0 : ∀ k ∈ y0.1.weights Tryd.prog 22, k ≤ reachBytes := fun k hk => key k (by
    simp only [DataW.weights, Tryd.underlying25, DataW.weightsEach, List.map_cons, List.map_nil]
    simp [hk])
  have w1 : ∀ k ∈ y1.1.weights Tryd.prog 23, k ≤ reachBytes := fun k hk => key k (by
    simp only [DataW.weights, Tryd.underlying25, DataW.weightsEach, List.map_cons, List.map_nil]
    simp [hk])
  exact ⟨slice_weight Tryd.underlying22 (by kernel_rfl) h0' w0, slice_weight Tryd.underlying23 (by kernel_rfl) h1' w1⟩
end
end Go.Proofs.YtjnikjnkmcbjfabDoor.X
