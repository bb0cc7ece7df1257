/- The plain law: the document's answer for letters (packages cognateref02, 03) computes what the program's does. No program in sight. -/
import Derived.Test.YtjnikjnkmcbjfaaDoorPWord
import Derived.Test.YtjnikjnkmcbjfaaDoorPCheck
import Derived.Test.YtjnikjnkmcbjfaaDoorX23
import Derived.IntWalk
namespace Go.Proofs.YtjnikjnkmcbjfaaDoor.X
open Go.RowKit Go.Proofs.YtjnikjnkmcbjfaaDoorW.PrintWords Go.Proofs.YtjnikjnkmcbjfaaDoorW.PrintLast Go.Proofs.YtjnikjnkmcbjfaaDoorW.PrintMore
/-! ### Number -/
theorem number_l0 (F : List ByteArray) (L : List S53) (r : Int) (hL : L.length ≤ 1000000) : ∀ (d i : Nat), L.length - i = d → i ≤ L.length → ∃ n : Int, Ev (fun k => cognateref03_Number.l0 k r (i : Int) F L) n ∧ (n < 0 ↔ ∀ j, i ≤ j → j < L.length → (rd_T53 L (j : Int)).f0 ≠ r) := by
  intro d
  induction d with
  | zero =>
    intro i hd hi
    refine ⟨-1, Ev.step (fun k => by rw [cognateref03_Number.l0]) (Ev.ifn (by omega) (Ev.now _)), ?_⟩
    exact ⟨fun _ j h1 h2 => by omega, fun _ => by omega⟩
  | succ d ih =>
    intro i hd hi
    by_cases e : (rd_T53 L (i : Int)).f0 = r
    · refine ⟨i, Ev.step (fun k => by rw [cognateref03_Number.l0]) (Ev.ifp (by omega) (Ev.ifp (by omega) (Ev.ifp e (Ev.now _)))), ?_⟩
      exact ⟨fun h => by omega, fun h => absurd e (h i (Nat.le_refl _) (by omega))⟩
    · obtain ⟨n, hn, hn2⟩ := ih (i + 1) (by omega) (by omega)
      refine ⟨n, Ev.step (fun k => by rw [cognateref03_Number.l0]) (Ev.ifp (by omega) (Ev.ifp (by omega) (Ev.ifn e ?_))), ?_⟩
      · rw [w64s (by omega)]
        exact hn
      · rw [hn2]
        exact ⟨fun h j h1 h2 => (Nat.eq_or_lt_of_le h1).elim (fun e' => e' ▸ e) (fun h3 => h j h3 h2), fun h j h1 h2 => h j (by omega) h2⟩
theorem number_ev (F : List ByteArray) (L : List S53) (r : Int) (hL : L.length ≤ 1000000) : ∃ n : Int, Ev (fun k => cognateref03_Number.f k F L r) n ∧ (n < 0 ↔ r ∉ L.map (·.f0)) := by
  obtain ⟨n, h1, h2⟩ := number_l0 F L r hL L.length 0 (by omega) (by omega)
  refine ⟨n, h1, ?_⟩
  rw [h2, mem_runes]
  exact ⟨fun h ⟨j, hj, e⟩ => h j (Nat.zero_le _) hj e, fun h j _ hj e => h ⟨j, hj, e⟩⟩
/-! ### Read -/
theorem decode_cut (s : ByteArray) (n pos : Nat) (h1 : pos + 4 ≤ n) (h2 : n ≤ s.size) : Utf8.decode (s.extract 0 n) pos = Utf8.decode s pos := by
  have hs : (s.extract 0 n).size = n := by rw [ByteArray.size_extract]; omega
  have hg : ∀ k, k < 4 → (s.extract 0 n).get! (pos + k) = s.get! (pos + k) := fun k hk => by
    have a1 : pos + k < (s.extract 0 n).size := by omega
    have a2 : pos + k < s.size := by omega
    have b1 : (s.extract 0 n).get! (pos + k) = (s.extract 0 n)[pos + k]'a1 := get_at _ (pos + k) a1
    have b2 : s.get! (pos + k) = s[pos + k]'a2 := get_at _ (pos + k) a2
    rw [b1, b2, ByteArray.getElem_extract]
    simp
  have c : ∀ k, k < 4 → (decide (pos + k < (s.extract 0 n).size)) = decide (pos + k < s.size) := fun k hk => by
    rw [hs, decide_eq_true (by omega), decide_eq_true (by omega)]
  simp only [Utf8.decode, hg 0 (by omega), hg 1 (by omega), hg 2 (by omega), hg 3 (by omega), c 1 (by omega), c 2 (by omega), c 3 (by omega)]
theorem read_l0 (F : List ByteArray) (L : List S53) (s : ByteArray) (hL : L.length ≤ 1000000) : ∀ (b pos : Nat) (out : List Int), s.size ≤ pos + b → out.length ≤ 64 → pos ≤ 4 * out.length → Ev (fun k => cognateref03_Read.l0 k s 64 out (pos : Int) F L) (readL (L.map (·.f0)) (piecesOf s b pos) out) := by
  intro b
  induction b with
  | zero =>
    intro pos out h1 h2 h3
    refine Ev.step (fun k => by rw [cognateref03_Read.l0]) (Ev.ifn (by omega) (Ev.ret ?_))
    simp only [piecesOf, readL]
  | succ b ih =>
    intro pos out h1 h2 h3
    by_cases hlt : pos < s.size
    · have hd : utf8_DecodeRuneInString.f (s.extract ((pos : Nat) : Int).toNat s.size) = some (((Utf8.decode s pos).1 : Int), ((Utf8.decode s pos).2 : Int)) := by
        rw [Int.toNat_natCast, utf8_DecodeRuneInString.f, decodeGo_at s pos hlt]
      have hn := decode_narrow s pos
      have hw := decode_wide s pos hlt
      obtain ⟨n, hn1, hn2⟩ := number_ev F L ((Utf8.decode s pos).1 : Int) hL
      have key : ∀ br : Bool, br = decide ((Utf8.decode s pos).1 = 65533 ∧ (Utf8.decode s pos).2 = 1) → Ev (fun k => cognateref03_Read.j1 k s 64 out (pos : Int) ((Utf8.decode s pos).1 : Int) ((Utf8.decode s pos).2 : Int) br F L) (readL (L.map (·.f0)) (piecesOf s (b + 1) pos) out) := by
        intro br hbr
        refine Ev.step (fun k => by rw [cognateref03_Read.j1]) ?_
        simp only [piecesOf, if_pos hlt, readL, pieceAt]
        rw [← hbr]
        cases br with
        | true => exact Ev.ifp rfl (Ev.ret (by simp))
        | false =>
          refine Ev.ifn (by simp) (Ev.bind hn1 ?_)
          rw [if_neg (by simp)]
          by_cases hm : ((Utf8.decode s pos).1 : Int) ∈ L.map (·.f0)
          · refine Ev.ifn (fun h => hn2.1 h hm) ?_
            rw [if_pos hm]
            by_cases h64 : out.length = 64
            · exact Ev.ifp (by omega) (Ev.ret (by rw [if_pos h64]))
            · refine Ev.ifn (by omega) (Ev.ifp (by omega) ?_)
              rw [if_neg h64]
              have he : wrap64 ((pos : Int) + ((Utf8.decode s pos).2 : Int)) = ((pos + (Utf8.decode s pos).2 : Nat) : Int) := by rw [w64 (by omega)]; omega
              rw [he]
              exact ih _ _ (by omega) (by rw [List.length_append]; simp only [List.length_cons, List.length_nil]; omega) (by rw [List.length_append]; simp only [List.length_cons, List.length_nil]; omega)
          · exact Ev.ifp (hn2.2 hm) (Ev.ret (by rw [if_neg hm]))
      refine Ev.step (fun k => by rw [cognateref03_Read.l0]) (Ev.ifp (by omega) (Ev.ifp (by omega) (Ev.ifp (by omega) (Ev.someb (fun _ => hd) ?_))))
      by_cases e : (Utf8.decode s pos).1 = 65533
      · refine Ev.ifp (by show ((Utf8.decode s pos).1 : Int) = 65533; omega) (key _ ?_)
        show (((Utf8.decode s pos).2 : Int) == 1) = _
        rw [Bool.eq_iff_iff, beq_iff_eq, decide_eq_true_eq]
        omega
      · refine Ev.ifn (by show ¬ ((Utf8.decode s pos).1 : Int) = 65533; omega) (key _ ?_)
        rw [decide_eq_false (fun h => e h.1)]
    · refine Ev.step (fun k => by rw [cognateref03_Read.l0]) (Ev.ifn (by omega) (Ev.ret ?_))
      simp only [piecesOf, if_neg hlt, readL]
theorem read_cut (R : List Int) (s : ByteArray) (hs : 65536 < s.size) : ∀ (b b' pos : Nat) (out : List Int), 65536 ≤ pos + b → s.size ≤ pos + b' → out.length ≤ 64 → pos ≤ 4 * out.length → readL R (piecesOf (s.extract 0 65536) b pos) out = readL R (piecesOf s b' pos) out := by
  intro b
  induction b with
  | zero => intro b' pos out h1 h2 h3 h4; omega
  | succ b ih =>
    intro b' pos out h1 h2 h3 h4
    obtain ⟨b', rfl⟩ : ∃ q, b' = q + 1 := ⟨b' - 1, by omega⟩
    have hz : (s.extract 0 65536).size = 65536 := by rw [ByteArray.size_extract]; omega
    have hd := decode_cut s 65536 pos (by omega) (by omega)
    have hn := decode_narrow s pos
    have hw := decode_wide s pos (by omega)
    have hp : pieceAt (s.extract 0 65536) pos = pieceAt s pos := by unfold pieceAt; rw [hd]
    simp only [piecesOf, if_pos (show pos < (s.extract 0 65536).size by omega), if_pos (show pos < s.size by omega), hp, hd, readL]
    split
    · rfl
    · split
      · split
        · rfl
        · exact ih b' _ _ (by omega) (by omega) (by rw [List.length_append]; simp only [List.length_cons, List.length_nil]; omega) (by rw [List.length_append]; simp only [List.length_cons, List.length_nil]; omega)
      · rfl
theorem refRead_ev (F : List ByteArray) (L : List S53) (s : ByteArray) (hL : L.length ≤ 1000000) : Ev (fun k => cognateref03_Read.f k F L s 64) (readL (L.map (·.f0)) (pieces (cutS s)) []) := by
  have h := read_l0 F L s hL s.size 0 [] (by omega) (by simp) (by simp)
  have e : readL (L.map (·.f0)) (pieces (cutS s)) [] = readL (L.map (·.f0)) (piecesOf s s.size 0) [] := by
    unfold pieces cutS
    split
    · exact read_cut _ s (by omega) _ _ 0 [] (by rw [ByteArray.size_extract]; omega) (by omega) (by simp) (by simp)
    · rfl
  rw [e]
  exact h
theorem refLetters_ev (F : List ByteArray) (L : List S53) (s : ByteArray) : Ev (fun k => cognateref03_Letters.f k F L s) (lettersV F L s) := by
  unfold lettersV
  rcases h : checkB F L with _ | _
  · refine Ev.bind (check_ev F L) ?_
    rw [h]
    exact Ev.ifn (by simp) (Ev.ret (by simp))
  · refine Ev.bind (check_ev F L) ?_
    rw [h]
    refine Ev.ifp (by simp) (Ev.bind (refRead_ev F L s (by have := check_len h; omega)) (Ev.ret (by simp)))
/-! ### what is known of letters that were read -/
end Go.Proofs.YtjnikjnkmcbjfaaDoor.X
