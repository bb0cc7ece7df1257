/- The plain law: a row of letters is told by its bytes. No program in sight. -/
import Derived.Test.YtjnikjnkmcbjfabDoorPWord
namespace Go.Proofs.YtjnikjnkmcbjfabDoor.X
open Go.RowKit Go.Proofs.YtjnikjnkmcbjfabDoorW.PrintWords Go.Proofs.YtjnikjnkmcbjfabDoorW.PrintLast Go.Proofs.YtjnikjnkmcbjfabDoorW.PrintMore
/-! ### a row of letters is told by its bytes -/
theorem runes_fold (xs : List Int) : ∀ acc : ByteArray, (xs.foldl (fun r n => r ++ Utf8.encode n) acc).data.toList = acc.data.toList ++ xs.flatMap (fun n => (Utf8.encode n).data.toList) := by
  induction xs with
  | nil => simp
  | cons x xs ih =>
    intro acc
    rw [List.foldl_cons, ih, ByteArray.data_append, Array.toList_append, List.flatMap_cons, List.append_assoc]
theorem runes_bytes (xs : List Int) : (runesBytes xs).toList = xs.flatMap (fun n => (Utf8.encode n).data.toList) := by
  rw [ByteArray.toList_eq, runesBytes, runes_fold]
  rfl
theorem letter_valid {r : Int} (h : letterB r = true) : Utf8.valid r = true ∧ 65 ≤ r ∧ r ≤ 1114111 := by
  simp only [letterB, Bool.or_eq_true, decide_eq_true_eq] at h
  refine ⟨?_, by omega, by omega⟩
  simp only [Utf8.valid]
  simp
  omega
def encL (c : Nat) : List Nat :=
  if c < 128 then [c] else if c < 2048 then [192 + c / 64, 128 + c % 64] else if c < 65536 then [224 + c / 4096, 128 + c / 64 % 64, 128 + c % 64] else [240 + c / 262144, 128 + c / 4096 % 64, 128 + c / 64 % 64, 128 + c % 64]
theorem enc_map {r : Int} (h : letterB r = true) : (Utf8.encode r).data.toList.map UInt8.toNat = encL r.toNat := by
  obtain ⟨v, h1, h2⟩ := letter_valid h
  have hb : ∀ m : Nat, m < 256 → (UInt8.ofNat m).toNat = m := fun m hm => by simp; omega
  simp only [Utf8.encode, v, if_true, encL]
  split
  · simp only [List.map_cons, List.map_nil, hb _ (show r.toNat < 256 by omega)]
  · split
    · simp only [List.map_cons, List.map_nil, hb _ (show 192 + r.toNat / 64 < 256 by omega), hb _ (show 128 + r.toNat % 64 < 256 by omega)]
    · split
      · simp only [List.map_cons, List.map_nil, hb _ (show 224 + r.toNat / 4096 < 256 by omega), hb _ (show 128 + r.toNat / 64 % 64 < 256 by omega), hb _ (show 128 + r.toNat % 64 < 256 by omega)]
      · simp only [List.map_cons, List.map_nil, hb _ (show 240 + r.toNat / 262144 < 256 by omega), hb _ (show 128 + r.toNat / 4096 % 64 < 256 by omega), hb _ (show 128 + r.toNat / 64 % 64 < 256 by omega), hb _ (show 128 + r.toNat % 64 < 256 by omega)]
theorem encL_inj {c d : Nat} {x y : List Nat} (hc : c ≤ 1114111) (hd : d ≤ 1114111) (h : encL c ++ x = encL d ++ y) : c = d ∧ x = y := by
  unfold encL at h
  by_cases c1 : c < 128 <;> by_cases c2 : c < 2048 <;> by_cases c3 : c < 65536 <;> by_cases d1 : d < 128 <;> by_cases d2 : d < 2048 <;> by_cases d3 : d < 65536 <;> try omega
  all_goals simp only [c1, c2, c3, d1, d2, d3, if_true, if_false, List.cons_append, List.nil_append, List.cons.injEq] at h
  all_goals first | (refine ⟨?_, ?_⟩; omega; first | exact h.2 | exact h.2.2 | exact h.2.2.2 | exact h.2.2.2.2) | (exfalso; have := h.1; omega)
theorem encL_ne (c : Nat) : encL c ≠ [] := by
  unfold encL
  repeat' split
  all_goals simp
theorem runes_inj : ∀ xs ys : List Int, (∀ x ∈ xs, letterB x = true) → (∀ y ∈ ys, letterB y = true) → xs.flatMap (fun n => encL n.toNat) = ys.flatMap (fun n => encL n.toNat) → xs = ys
  | [], [], _, _, _ => rfl
  | [], y :: ys, _, _, h => by
    rw [List.flatMap_cons] at h
    exact absurd (List.append_eq_nil_iff.1 h.symm).1 (encL_ne _)
  | x :: xs, [], _, _, h => by
    rw [List.flatMap_cons] at h
    exact absurd (List.append_eq_nil_iff.1 h).1 (encL_ne _)
  | x :: xs, y :: ys, hx, hy, h => by
    rw [List.flatMap_cons, List.flatMap_cons] at h
    obtain ⟨_, a1, a2⟩ := letter_valid (hx x (by simp))
    obtain ⟨_, b1, b2⟩ := letter_valid (hy y (by simp))
    obtain ⟨h1, h2⟩ := encL_inj (by omega) (by omega) h
    rw [show x = y by omega, runes_inj xs ys (fun z hz => hx z (by simp [hz])) (fun z hz => hy z (by simp [hz])) h2]
theorem runes_map (xs : List Int) (h : ∀ x ∈ xs, letterB x = true) : (xs.flatMap (fun n => (Utf8.encode n).data.toList)).map UInt8.toNat = xs.flatMap (fun n => encL n.toNat) := by
  induction xs with
  | nil => rfl
  | cons x xs ih => rw [List.flatMap_cons, List.flatMap_cons, List.map_append, enc_map (h x (by simp)), ih (fun z hz => h z (by simp [hz]))]
theorem runes_eq (xs ys : List Int) (hx : ∀ x ∈ xs, letterB x = true) (hy : ∀ y ∈ ys, letterB y = true) : ((runesBytes xs).toList == (runesBytes ys).toList) = decide (xs = ys) := by
  rw [Bool.eq_iff_iff, beq_iff_eq, decide_eq_true_eq]
  constructor
  · intro h
    rw [runes_bytes, runes_bytes] at h
    refine runes_inj xs ys hx hy ?_
    rw [← runes_map xs hx, ← runes_map ys hy, h]
  · intro h
    rw [h]
end Go.Proofs.YtjnikjnkmcbjfabDoor.X
