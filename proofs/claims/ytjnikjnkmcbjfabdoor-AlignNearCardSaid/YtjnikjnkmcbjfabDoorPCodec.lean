/- The plain law: a text is its letters' bytes, and a row of letters is read back out of its bytes. No program in sight. -/
import Derived.Test.YtjnikjnkmcbjfabDoorPWord
import Derived.Test.YtjnikjnkmcbjfabDoorPRunes
import Derived.Lib.MapLaws
import Derived.Lib.TrimUEq
namespace Go.Proofs.YtjnikjnkmcbjfabDoor.X
open Go.RowKit Go.Proofs.YtjnikjnkmcbjfabDoorW.PrintWords Go.Proofs.YtjnikjnkmcbjfabDoorW.PrintLast Go.Proofs.YtjnikjnkmcbjfabDoorW.PrintMore
theorem enc_rune {r : Int} (h : letterB r = true) : (Utf8.encode r).data.toList = Lib.encodeRune r := by
  obtain ⟨v, h1, h2⟩ := letter_valid h
  have hs : r < 55296 ∨ 57343 < r := by
    simp only [letterB, Bool.or_eq_true, decide_eq_true_eq] at h
    omega
  have u : ∀ (m : Nat) (z : Int), z.toNat = m → UInt8.ofNat m = z.toNat.toUInt8 := fun m z e => by rw [e]
  simp only [Utf8.encode, v, if_true, Lib.encodeRune]
  split
  · rw [Lib.encodeRuneZ_one (by omega) (by omega)]
    simp only [List.map_cons, List.map_nil, u r.toNat r rfl]
  · split
    · rw [Lib.encodeRuneZ_two (by omega) (by omega)]
      simp only [List.map_cons, List.map_nil]
      rw [u (192 + r.toNat / 64) (192 + r / 64) (by omega), u (128 + r.toNat % 64) (128 + r % 64) (by omega)]
    · split
      · rw [Lib.encodeRuneZ_three (by omega)]
        simp only [List.map_cons, List.map_nil]
        rw [u (224 + r.toNat / 4096) (224 + r / 4096) (by omega), u (128 + r.toNat / 64 % 64) (128 + r / 64 % 64) (by omega), u (128 + r.toNat % 64) (128 + r % 64) (by omega)]
      · rw [Lib.encodeRuneZ_four (by omega) (by omega)]
        simp only [List.map_cons, List.map_nil]
        rw [u (240 + r.toNat / 262144) (240 + r / 262144) (by omega), u (128 + r.toNat / 4096 % 64) (128 + r / 4096 % 64) (by omega), u (128 + r.toNat / 64 % 64) (128 + r / 64 % 64) (by omega), u (128 + r.toNat % 64) (128 + r % 64) (by omega)]
/-- A row's bytes. -/
def bytesR (l : List Int) : List UInt8 := l.flatMap fun n => (Utf8.encode n).data.toList
theorem bytesR_append (a b : List Int) : bytesR (a ++ b) = bytesR a ++ bytesR b := by simp [bytesR]
theorem runes_read (R : List Int) (hR : ∀ x ∈ R, letterB x = true) (s : ByteArray) : ∀ (b pos : Nat) (out l : List Int), readL R (piecesOf s b pos) out = (l, 0) → s.size ≤ pos + b → bytesR l = bytesR out ++ s.data.toList.drop pos := by
  have hend : ∀ pos, s.size ≤ pos → s.data.toList.drop pos = [] := fun pos h => List.drop_eq_nil_of_le (by rw [Array.length_toList]; exact h)
  intro b
  induction b with
  | zero =>
    intro pos out l h hs
    simp only [piecesOf, readL, Prod.mk.injEq, and_true] at h
    rw [h, hend pos (by omega), List.append_nil]
  | succ b ih =>
    intro pos out l h hs
    by_cases hlt : pos < s.size
    · simp only [piecesOf, if_pos hlt, readL, pieceAt] at h
      split at h
      · simp at h
      · rename_i hb
        split at h
        · rename_i hm
          split at h
          · simp at h
          · have h2 := ih _ _ _ h (by have := decode_wide s pos hlt; omega)
            rw [h2, bytesR_append, List.append_assoc]
            have he : bytesR [((Utf8.decode s pos).1 : Int)] = Lib.encodeRune ((Utf8.decode s pos).1 : Int) := by simp [bytesR, enc_rune (hR _ hm)]
            have hd := Lib.decodeL_drop s pos
            have hne : s.data.toList.drop pos ≠ [] := fun e => by
              have := congrArg List.length e
              rw [List.length_drop, Array.length_toList] at this
              have h3 : s.data.size = s.size := rfl
              simp only [List.length_nil] at this
              omega
            have hx := Lib.encode_decode (s.data.toList.drop pos) hne (by rw [hd]; simpa using hb)
            rw [hd] at hx
            have key : bytesR [((Utf8.decode s pos).1 : Int)] ++ s.data.toList.drop (pos + (Utf8.decode s pos).2) = s.data.toList.drop pos := by
              rw [he, hx, ← List.drop_drop]
              exact List.take_append_drop _ _
            rw [key]
        · simp at h
    · simp only [piecesOf, if_neg hlt, readL, Prod.mk.injEq, and_true] at h
      rw [h, hend pos (by omega), List.append_nil]
theorem readL_len0 (R : List Int) : ∀ (ps : List Pc) (out l : List Int), readL R ps out = (l, 0) → l.length = out.length + ps.length
  | [], out, l, h => by simp only [readL, Prod.mk.injEq, and_true] at h; rw [h]; simp
  | p :: ps, out, l, h => by
    unfold readL at h
    split at h
    · simp at h
    · split at h
      · split at h
        · simp at h
        · have := readL_len0 R ps _ l h
          simp only [List.length_append, List.length_cons, List.length_nil] at this ⊢
          omega
      · simp at h
theorem piecesOf_size (s : ByteArray) : ∀ (b pos : Nat), s.size ≤ pos + b → s.size ≤ pos + 4 * (piecesOf s b pos).length
  | 0, pos, h => by omega
  | b + 1, pos, h => by
    by_cases hlt : pos < s.size
    · simp only [piecesOf, if_pos hlt, List.length_cons]
      have := decode_wide s pos hlt
      have := decode_narrow s pos
      have := piecesOf_size s b (pos + (Utf8.decode s pos).2) (by omega)
      omega
    · omega
/-- What is known of a word that may be. -/
theorem letters_ok {F : List ByteArray} {L : List S91} {s : ByteArray} (h : (lettersV F L s).2 = 0) : checkB F L = true ∧ s.size ≤ 256 ∧ runesBytes (lettersV F L s).1 = s ∧ ∀ x ∈ (lettersV F L s).1, x ∈ L.map (·.f0) := by
  rcases hc : checkB F L with _ | _
  · simp [lettersV, hc] at h
  · have e : lettersV F L s = readL (L.map (·.f0)) (pieces (cutS s)) [] := by unfold lettersV; rw [if_pos hc]
    rw [e] at h ⊢
    obtain ⟨l, hl⟩ : ∃ l, readL (L.map (·.f0)) (pieces (cutS s)) [] = (l, 0) := ⟨_, Prod.ext rfl h⟩
    have h1 := readL_len0 _ _ _ _ hl
    have h2 := readL_len (L.map (·.f0)) (pieces (cutS s)) [] (by simp)
    have h3 := piecesOf_size (cutS s) (cutS s).size 0 (by omega)
    rw [hl] at h2 ⊢
    have hp : (piecesOf (cutS s) (cutS s).size 0).length = (pieces (cutS s)).length := rfl
    simp only [List.length_nil] at h1 h2
    have hs : s.size ≤ 256 := by
      unfold cutS at h3 hp h1
      split at h3
      · rename_i hbig
        rw [if_pos hbig] at hp h1
        rw [ByteArray.size_extract] at h3
        rw [ByteArray.size_extract] at hp
        omega
      · rename_i hbig
        rw [if_neg hbig] at hp h1
        omega
    have hcut : cutS s = s := by unfold cutS; rw [if_neg (by omega)]
    refine ⟨rfl, hs, ?_, fun x hx => ?_⟩
    · rw [hcut] at hl
      have := runes_read _ (fun x hx => check_letter hc x hx) s s.size 0 [] l hl (by omega)
      simp only [bytesR, List.flatMap_nil, List.nil_append, List.drop_zero] at this
      apply ByteArray.ext
      apply Array.toList_inj.1
      rw [← ByteArray.toList_eq, runes_bytes]
      exact this
    · have := readL_mem (L.map (·.f0)) (pieces (cutS s)) [] (by simp) x
      rw [hl] at this
      exact this hx
theorem decode_enc {c : Int} (h : letterB c = true) (rest : List UInt8) : Lib.decodeL ((Utf8.encode c).data.toList ++ rest) = (c.toNat, (Utf8.encode c).data.toList.length) := by
  obtain ⟨_, h1, h2⟩ := letter_valid h
  have hs : c < 55296 ∨ 57343 < c := by
    simp only [letterB, Bool.or_eq_true, decide_eq_true_eq] at h
    omega
  have hm := enc_map h
  rw [Lib.decodeL_N]
  generalize (Utf8.encode c).data.toList = E at hm
  unfold encL at hm
  split at hm
  · rcases E with _ | ⟨e0, _ | ⟨e1, t⟩⟩ <;> simp only [List.map_nil, List.map_cons, List.cons.injEq, and_true, reduceCtorEq, and_false] at hm
    simp only [List.cons_append, List.nil_append, List.getD_cons_zero, List.length_cons, List.length_nil, hm]
    unfold Lib.decodeN
    rw [if_pos (by omega)]
  · split at hm
    · rcases E with _ | ⟨e0, _ | ⟨e1, _ | ⟨e2, t⟩⟩⟩ <;> simp only [List.map_nil, List.map_cons, List.cons.injEq, and_true, reduceCtorEq, and_false] at hm
      simp only [List.cons_append, List.nil_append, List.getD_cons_zero, List.getD_cons_succ, List.length_cons, List.length_nil, hm.1, hm.2]
      unfold Lib.decodeN
      rw [if_neg (by omega), if_pos (by omega), if_pos (by omega)]
      exact Prod.ext (by simp only; omega) rfl
    · split at hm
      · rcases E with _ | ⟨e0, _ | ⟨e1, _ | ⟨e2, _ | ⟨e3, t⟩⟩⟩⟩ <;> simp only [List.map_nil, List.map_cons, List.cons.injEq, and_true, reduceCtorEq, and_false] at hm
        simp only [List.cons_append, List.nil_append, List.getD_cons_zero, List.getD_cons_succ, List.length_cons, List.length_nil, hm.1, hm.2.1, hm.2.2]
        unfold Lib.decodeN
        rw [if_neg (by omega), if_neg (by omega), if_pos (by omega), if_pos (by omega)]
        exact Prod.ext (by simp only; omega) rfl
      · rcases E with _ | ⟨e0, _ | ⟨e1, _ | ⟨e2, _ | ⟨e3, _ | ⟨e4, t⟩⟩⟩⟩⟩ <;> simp only [List.map_nil, List.map_cons, List.cons.injEq, and_true, reduceCtorEq, and_false] at hm
        simp only [List.cons_append, List.nil_append, List.getD_cons_zero, List.getD_cons_succ, List.length_cons, List.length_nil, hm.1, hm.2.1, hm.2.2.1, hm.2.2.2]
        unfold Lib.decodeN
        rw [if_neg (by omega), if_neg (by omega), if_neg (by omega), if_pos (by omega), if_pos (by omega)]
        exact Prod.ext (by simp only; omega) rfl
theorem read_back (R : List Int) (hR : ∀ x ∈ R, letterB x = true) (s : ByteArray) : ∀ (m : List Int) (b pos : Nat) (out : List Int), s.data.toList.drop pos = bytesR m → s.size ≤ pos + b → (∀ x ∈ m, x ∈ R) → out.length + m.length ≤ 64 → readL R (piecesOf s b pos) out = (out ++ m, 0)
  | [], b, pos, out, hd, hb, hm, hl => by
    have hz : ¬ pos < s.size := fun h => by
      have := congrArg List.length hd
      rw [List.length_drop, Array.length_toList] at this
      have h3 : s.data.size = s.size := rfl
      simp only [bytesR, List.flatMap_nil, List.length_nil] at this
      omega
    rw [piecesOf_end s b pos hz, List.append_nil, readL]
  | c :: m, b, pos, out, hd, hb, hm, hl => by
    have hc := hR c (hm c (by simp))
    have hdr := Lib.decodeL_drop s pos
    have hcons : bytesR (c :: m) = (Utf8.encode c).data.toList ++ bytesR m := by simp [bytesR]
    rw [hd, hcons, decode_enc hc] at hdr
    have hlen : 1 ≤ (Utf8.encode c).data.toList.length := by
      have := congrArg List.length (enc_map hc)
      rw [List.length_map] at this
      rw [this]
      have := encL_ne c.toNat
      rcases h : encL c.toNat with _ | ⟨a, t⟩
      · exact absurd h this
      · simp
    have hlt : pos < s.size := by
      have := congrArg List.length hd
      rw [List.length_drop, Array.length_toList, hcons, List.length_append] at this
      have h3 : s.data.size = s.size := rfl
      omega
    obtain ⟨b, rfl⟩ : ∃ q, b = q + 1 := ⟨b - 1, by omega⟩
    obtain ⟨_, v1, v2⟩ := letter_valid hc
    have hcn : ((c.toNat : Nat) : Int) = c := by omega
    have hnb : ¬ (c.toNat = 65533 ∧ (Utf8.encode c).data.toList.length = 1) := by
      intro hx
      simp only [letterB, Bool.or_eq_true, decide_eq_true_eq] at hc
      omega
    simp only [piecesOf, if_pos hlt, readL, pieceAt, ← hdr, hcn, decide_eq_false hnb]
    rw [if_neg (by decide), if_pos (hm c (by simp)), if_neg (by simp only [List.length_cons] at hl; omega)]
    have ih := read_back R hR s m b (pos + (Utf8.encode c).data.toList.length) (out ++ [c]) (by rw [← List.drop_drop, hd, hcons, List.drop_left]) (by omega) (fun x hx => hm x (by simp [hx])) (by rw [List.length_append]; simp only [List.length_cons, List.length_nil] at hl ⊢; omega)
    rw [ih, List.append_assoc]
    rfl
theorem runes_data (m : List Int) : (runesBytes m).data.toList = bytesR m := by
  rw [← ByteArray.toList_eq, runes_bytes]
  rfl
theorem bytesR_len : ∀ m : List Int, (∀ x ∈ m, letterB x = true) → (bytesR m).length ≤ 4 * m.length
  | [], _ => by simp [bytesR]
  | c :: m, h => by
    have h1 := congrArg List.length (enc_map (h c (by simp)))
    rw [List.length_map] at h1
    have h2 : (encL c.toNat).length ≤ 4 := by
      unfold encL
      repeat' split
      all_goals simp
    have h3 := bytesR_len m (fun x hx => h x (by simp [hx]))
    have h4 : bytesR (c :: m) = (Utf8.encode c).data.toList ++ bytesR m := by simp [bytesR]
    rw [h4, List.length_append, List.length_cons]
    omega
/-- A row of an alphabet's letters is read back out of its bytes. -/
theorem letters_back {F : List ByteArray} {L : List S91} (hc : checkB F L = true) (m : List Int) (hm : ∀ x ∈ m, x ∈ L.map (·.f0)) (hl : m.length ≤ 64) : lettersV F L (runesBytes m) = (m, 0) := by
  have hR : ∀ x ∈ L.map (·.f0), letterB x = true := fun x hx => check_letter hc x hx
  have hz : (runesBytes m).size = (bytesR m).length := by
    rw [← runes_data, Array.length_toList]
    rfl
  have hb := bytesR_len m (fun x hx => hR x (hm x hx))
  have hcut : cutS (runesBytes m) = runesBytes m := by unfold cutS; rw [if_neg (by omega)]
  unfold lettersV
  rw [if_pos hc, hcut]
  exact read_back _ hR (runesBytes m) m _ 0 [] (by rw [List.drop_zero, runes_data]) (by omega) hm (by simpa using hl)
theorem runes_append (a b : List Int) : runesBytes (a ++ b) = runesBytes a ++ runesBytes b := by
  apply ByteArray.ext
  apply Array.toList_inj.1
  rw [runes_data, bytesR_append, ByteArray.data_append, Array.toList_append, runes_data, runes_data]
theorem runes_size (m : List Int) : (runesBytes m).size = (bytesR m).length := by
  rw [← runes_data, Array.length_toList]
  rfl
end Go.Proofs.YtjnikjnkmcbjfabDoor.X
