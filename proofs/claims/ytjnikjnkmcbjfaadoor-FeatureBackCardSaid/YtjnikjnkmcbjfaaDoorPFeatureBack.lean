/- The plain law of FeatureBack: what the law's function computes is true. -/
import Derived.Test.YtjnikjnkmcbjfaaDoorPFeat
import Derived.Test.YtjnikjnkmcbjfaaDoorX38
namespace Go.Proofs.YtjnikjnkmcbjfaaDoor.X
open Go.RowKit Go.Proofs.YtjnikjnkmcbjfaaDoorW.PrintWords Go.Proofs.YtjnikjnkmcbjfaaDoorW.PrintLast Go.Proofs.YtjnikjnkmcbjfaaDoorW.PrintMore
theorem nameB_abc {s : ByteArray} (h : nameB s = true) : ∀ b ∈ s.data.toList, abcB b = true := by
  unfold nameB feature_named.f at h
  split at h
  · simp at h
  · split at h
    · rename_i hz
      have ht : strings_Trim.f s (⟨#[97, 98, 99, 100, 101, 102, 103, 104, 105, 106, 107, 108, 109, 110, 111, 112, 113, 114, 115, 116, 117, 118, 119, 120, 121, 122]⟩ : ByteArray) = some ⟨(Lib.trimS s.data.toList abcS.data.toList).toArray⟩ := by
        unfold strings_Trim.f
        rw [if_pos ⟨by omega, by decide⟩]
        rfl
      rw [ht] at h
      simp only [Option.bind_some, Option.getD_some, ByteArray.toList_mk, beq_iff_eq] at h
      have hd : ∀ (l : List UInt8), l.dropWhile (abcS.data.toList.contains ·) = [] → ∀ b ∈ l, abcB b = true := by
        intro l
        induction l with
        | nil => exact fun _ b hb => absurd hb (List.not_mem_nil)
        | cons a l ih =>
          intro h1 b hb
          rw [List.dropWhile_cons] at h1
          split at h1
          · rename_i ha
            rcases List.mem_cons.1 hb with rfl | h2
            · rw [← abc_has]; exact ha
            · exact ih h1 b h2
          · cases h1
      unfold Lib.trimS Lib.trimLeftS Lib.trimRightS at h
      have h3 := hd _ h
      intro b hb
      rcases Nat.eq_zero_or_pos (s.data.toList.reverse.dropWhile (abcS.data.toList.contains ·)).length with h4 | h4
      · exact hd s.data.toList.reverse (List.eq_nil_of_length_eq_zero h4) b (List.mem_reverse.2 hb)
      · rcases e : s.data.toList.reverse.dropWhile (abcS.data.toList.contains ·) with _ | ⟨x, t⟩
        · rw [e] at h4; simp at h4
        · have h5 := List.head?_dropWhile_not (abcS.data.toList.contains ·) s.data.toList.reverse
          rw [e] at h5
          simp only [List.head?_cons] at h5
          have h6 := h3 x (List.mem_reverse.2 (by rw [e]; simp))
          rw [← abc_has] at h6
          rw [h6] at h5
          simp at h5
    · simp at h
theorem names_ok {F : List ByteArray} {L : List S53} (h : checkB F L = true) : namesOk F := by
  refine ⟨(check_feats h).1, fun j hj => nameB_abc (check_name h j hj).1, fun i j hij hj => ?_⟩
  have hd := (check_name h j hj).2
  intro e
  unfold dupB at hd
  rw [List.any_eq_false] at hd
  refine hd (F[i]'(by omega)) (List.mem_of_getElem? (i := i) (by rw [List.getElem?_take]; simp [hij, show i < F.length by omega])) ?_
  rw [beq_iff_eq, ← e]
  simp [rdOf, show i < F.length by omega]
/-- A class that may be is read of its text. -/
theorem read_back {F : List ByteArray} {L : List S53} (hc : checkB F L = true) (p m : Nat) (hp : p < 2 ^ F.length) (hm : m < 2 ^ F.length) (hd : p &&& m = 0) :
    ∃ t : ByteArray, textV F L (p : Int) (m : Int) = (t, 0) ∧ parseV F L t = ((p : Int), (m : Int), 0, 0) := by
  have hF := (check_feats hc).1
  have h24 : 2 ^ F.length ≤ 2 ^ 24 := Nat.pow_le_pow_right (by omega) hF
  refine ⟨⟨(textL F (p : Int) (m : Int) F.length).toArray⟩, ?_, ?_⟩
  · unfold textV
    rw [if_pos hc, if_pos ((within_nat F p m hF (by omega) (by omega)).2 ⟨hp, hm, hd⟩)]
  · have hl := textL_len F (p : Int) (m : Int) F.length (fun j hj => named_size (check_name hc j hj).1)
    have hs : (⟨(textL F (p : Int) (m : Int) F.length).toArray⟩ : ByteArray).size = (textL F (p : Int) (m : Int) F.length).length := by
      show (textL F (p : Int) (m : Int) F.length).toArray.size = _
      rw [List.size_toArray]
    unfold parseV
    rw [if_pos hc, if_neg (by rw [hs]; omega), hs]
    have ht := text_tail F (p : Int) (m : Int) F.length 0
    rw [Nat.zero_add] at ht
    have h1 := parse_tail F (names_ok hc) p m hp hm hd F.length 0 ((textL F (p : Int) (m : Int) F.length).length + 1) (by omega) (by rw [← ht]; simp [textL]) 0
    have e : tailL F (p : Int) (m : Int) F.length 0 = textL F (p : Int) (m : Int) F.length := by rw [← ht]; rfl
    rw [e, Nat.pow_zero, Nat.mod_one, Nat.mod_one] at h1
    exact h1
theorem back_j0 (F : List ByteArray) (L : List S53) (s : ByteArray) : Ev (fun k => cognatelaw02_FeatureBack.j0 k s F L) true := by
  refine Ev.step (fun k => by rw [cognatelaw02_FeatureBack.j0]) ?_
  refine Ev.someb (a := parseV F L s) (fun _ => rfl) ?_
  have hcase : (checkB F L = true ∧ ∃ p m : Nat, p < 2 ^ F.length ∧ m < 2 ^ F.length ∧ p &&& m = 0 ∧ parseV F L s = ((p : Int), (m : Int), 0, 0)) ∨ ∃ a e : Int, 0 ≤ a ∧ a ≤ s.size ∧ e ≠ 0 ∧ parseV F L s = (0, 0, a, e) := by
    unfold parseV
    rcases hc : checkB F L with _ | _
    · exact Or.inr ⟨0, 7, by omega, by omega, by decide, rfl⟩
    · rw [if_pos rfl]
      by_cases hs : 65536 < s.size
      · rw [if_pos hs]
        exact Or.inr ⟨0, 3, by omega, by omega, by decide, rfl⟩
      · rw [if_neg hs]
        have h0 : 0 < 2 ^ F.length := Nat.pow_pos (by omega)
        rcases parse_good F (check_feats hc).1 (s.size + 1) s.data.toList 0 0 0 h0 h0 rfl with ⟨p, m, hp, hm, hd, h1⟩ | ⟨a, h1, h2, h3⟩
        · exact Or.inl ⟨rfl, p, m, hp, hm, hd, h1⟩
        · refine Or.inr ⟨a, 20, h1, ?_, by decide, h3⟩
          have : s.data.toList.length = s.size := by rw [Array.length_toList]; rfl
          rw [this] at h2
          omega
  rcases hcase with ⟨hc, p, m, hp, hm, hd, h1⟩ | ⟨a, e, h1, h2, h3, h4⟩
  · obtain ⟨t, ht, hr⟩ := read_back hc p m hp hm hd
    rw [h1]
    refine Ev.ifp rfl (Ev.someb (a := (t, 0)) (fun _ => congrArg some ht) (Ev.someb (a := ((p : Int), (m : Int), 0, 0)) (fun _ => congrArg some hr) ?_))
    exact Ev.ifp rfl (Ev.ifp rfl (Ev.ifp rfl (Ev.ifp rfl (Ev.now _))))
  · rw [h4]
    exact Ev.ifn h3 (Ev.ifp rfl (Ev.ifp rfl (Ev.ifp h1 (Ev.ret (decide_eq_true h2)))))
theorem featureBack_law (F : List ByteArray) (L : List S53) (_ : WfL L) (p : Int) (hp : (Lit.int .u32 p).wf = true) (m : Int) (hm : (Lit.int .u32 m).wf = true) (s : ByteArray) : ∃ k, cognatelaw02_FeatureBack.f k F L p m s = some true := by
  refine Ev.rounds (Ev.bind alive_ev (Ev.ifp rfl ?_))
  by_cases hs : (s.size : Int) > 5000
  · exact Ev.ifp hs (Ev.now _)
  · refine Ev.ifn hs (Ev.someb (a := textV F L p m) (fun _ => rfl) ?_)
    obtain ⟨P, rfl, hP⟩ := u32_nat (u32_of_wf hp)
    obtain ⟨M, rfl, hM⟩ := u32_nat (u32_of_wf hm)
    rcases hc : checkB F L with _ | _
    · have e : textV F L (P : Int) (M : Int) = (⟨#[]⟩, 7) := by unfold textV; rw [hc]; rfl
      rw [e]
      exact Ev.ifn (by decide) (Ev.ifp (by rw [ByteArray.toList_eq]) (back_j0 F L s))
    · by_cases hw : withinB F (P : Int) (M : Int) = true
      · obtain ⟨h1, h2, h3⟩ := (within_nat F P M (check_feats hc).1 hP hM).1 hw
        obtain ⟨t, ht, hr⟩ := read_back hc P M h1 h2 h3
        rw [ht]
        exact Ev.ifp rfl (Ev.someb (a := ((P : Int), (M : Int), 0, 0)) (fun _ => congrArg some hr) (Ev.ifp rfl (Ev.ifp rfl (Ev.ifp rfl (Ev.ifp rfl (back_j0 F L s))))))
      · have e : textV F L (P : Int) (M : Int) = (⟨#[]⟩, 20) := by unfold textV; rw [if_pos hc, if_neg hw]
        rw [e]
        exact Ev.ifn (by decide) (Ev.ifp (by rw [ByteArray.toList_eq]) (back_j0 F L s))
end Go.Proofs.YtjnikjnkmcbjfaaDoor.X
