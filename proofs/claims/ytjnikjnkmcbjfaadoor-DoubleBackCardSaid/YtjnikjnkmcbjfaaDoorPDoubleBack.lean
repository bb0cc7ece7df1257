/- The plain law of DoubleBack: what was doubled is single again. -/
import Derived.Test.YtjnikjnkmcbjfaaDoorPFront
import Derived.Test.YtjnikjnkmcbjfaaDoorX25
namespace Go.Proofs.YtjnikjnkmcbjfaaDoor.X
open Go.RowKit Go.Proofs.YtjnikjnkmcbjfaaDoorW.PrintWords Go.Proofs.YtjnikjnkmcbjfaaDoorW.PrintLast Go.Proofs.YtjnikjnkmcbjfaaDoorW.PrintMore
theorem runsV_head (l : List Int) (a : S35) : ∀ (d i : Nat) (acc : List S35), ∃ t, runsV l d i (a :: acc) = a :: t
  | 0, i, acc => ⟨acc, rfl⟩
  | d + 1, i, acc => by
    simp only [runsV]
    unfold push
    split
    · exact runsV_head l a d (i + 1) acc
    · exact runsV_head l a d (i + 1) _
/-- A row doubled: its first run is the whole. -/
theorem runs_double (l : List Int) (h0 : 0 < l.length) : ∃ t, runsV (l ++ l) (l ++ l).length 0 [] = ⟨0, ((2 * l.length : Nat) : Int)⟩ :: t := by
  obtain ⟨d, hd⟩ : ∃ d, (l ++ l).length = d + 1 := ⟨(l ++ l).length - 1, by rw [List.length_append]; omega⟩
  have hh : ((l ++ l).length - 0) / 2 = l.length := by rw [List.length_append]; omega
  obtain ⟨n, hn⟩ : ∃ n, l.length = n + 1 := ⟨l.length - 1, by omega⟩
  have hb : halfB (seg (l ++ l) 0 (n + 1)) = true := by
    rw [halfB_iff]
    refine ⟨l, ?_⟩
    unfold seg
    rw [List.drop_zero]
    exact List.take_of_length_le (by rw [List.length_append]; omega)
  have hp := push_yes hb []
  rw [hd]
  simp only [runsV]
  rw [hh, hn, hp]
  obtain ⟨t, ht⟩ := runsV_head (l ++ l) ⟨((0 : Nat) : Int), ((0 + 2 * (n + 1) : Nat) : Int)⟩ d (0 + 1) []
  refine ⟨t, ?_⟩
  rw [List.nil_append, ht]
  simp
theorem doubleBack_j4 (F : List ByteArray) (L : List S53) (w : ByteArray) (n : Int) (he : (lettersV F L w).2 = 0) (hn0 : 0 ≤ n) (hn1 : n ≤ 64) (hs : (singleV F L w n).2.1 = true) : Ev (fun k => cognatelaw15_DoubleBack.j6 k w n (singleV F L w n).1 false F L) true := by
  obtain ⟨hck, _, hw, hmem⟩ := letters_ok he
  have hl := lettersV_len F L w
  have e1 : singleV F L w n = singleL (lettersV F L w).1 n := by
    unfold singleV
    rw [if_pos he, if_neg (by omega)]
  rw [e1] at hs ⊢
  generalize (lettersV F L w).1 = l at hl hs hw hmem
  have hcond : ¬ (cutV l n = 0 ∨ l.length < 2 * cutV l n ∨ (n = 0 ∧ l.length % 2 ≠ 0) ∨ halfB (l.take (2 * cutV l n)) = false) := by
    intro h
    rw [single_no rfl h] at hs
    cases hs
  rw [single_yes rfl hcond]
  have hc1 : 2 * cutV l n ≤ l.length := by omega
  have hb : halfB (l.take (2 * cutV l n)) = true := by
    rcases h : halfB (l.take (2 * cutV l n)) with _ | _
    · exact absurd (Or.inr (Or.inr (Or.inr h))) hcond
    · rfl
  obtain ⟨x, hx⟩ := (halfB_iff _).1 hb
  have hxl : x.length = cutV l n := by
    have := congrArg List.length hx
    rw [List.length_take, List.length_append] at this
    omega
  have hl2 : l = x ++ (x ++ l.drop (2 * cutV l n)) := by
    conv => lhs; rw [← List.take_append_drop (2 * cutV l n) l, hx, List.append_assoc]
  have hd : l.drop (cutV l n) = x ++ l.drop (2 * cutV l n) := by
    have h3 : (x ++ (x ++ l.drop (2 * cutV l n))).drop x.length = x ++ l.drop (2 * cutV l n) := List.drop_left
    rw [← hl2, hxl] at h3
    exact h3
  have hback := letters_back hck (l.drop (cutV l n)) (fun y hy => hmem y (List.mem_of_mem_drop hy)) (by rw [List.length_drop]; omega)
  refine Ev.step (fun k => by rw [cognatelaw15_DoubleBack.j6]) (Ev.ifn (by decide) ?_)
  by_cases hn : n = 0
  · refine Ev.ifp hn (Ev.someb (fun _ => whole_eq F L _) ?_)
    have hc : cutV l n = l.length / 2 := by unfold cutV; rw [if_pos hn]
    have hz : l.drop (2 * cutV l n) = [] := List.drop_eq_nil_of_le (by
      have : l.length % 2 = 0 := by
        rcases Nat.eq_zero_or_pos (l.length % 2) with h | h
        · exact h
        · exact absurd (Or.inr (Or.inr (Or.inl ⟨hn, by omega⟩))) hcond
      omega)
    have hv : wholeV F L (runesBytes (l.drop (cutV l n))) = (w, 0) := by
      unfold wholeV
      rw [hback, if_pos rfl, hd, hz, List.append_nil, ← hw]
      rw [hz, List.append_nil] at hl2
      rw [← hl2]
    rw [hv]
    exact Ev.ifp rfl (Ev.ret (by simp))
  · refine Ev.ifn hn (Ev.bind (front_ev F L _ n) ?_)
    have hc : cutV l n = n.toNat := by unfold cutV; rw [if_neg hn]
    have hv : frontV F L (runesBytes (l.drop (cutV l n))) n = (w, 0) := by
      unfold frontV
      rw [hback, if_pos rfl, if_neg (by omega), if_neg (by rw [List.length_drop]; omega), hd, ← hc, ← hxl, List.take_left, hxl, ← hl2, hw]
    rw [hv]
    exact Ev.ifp rfl (Ev.ret (by simp))
theorem single_empty {l : List Int} {n : Int} (h : (singleL l n).2.1 = false) : (singleL l n).1 = (⟨#[]⟩ : ByteArray) ∧ (singleL l n).2.2 = 0 := by
  unfold singleL at h ⊢
  split
  · exact ⟨rfl, rfl⟩
  · rename_i hc
    rw [if_neg hc] at h
    cases h
theorem doubleBack_j3 (F : List ByteArray) (L : List S53) (w : ByteArray) (n : Int) (he : (lettersV F L w).2 = 0) : Ev (fun k => cognatelaw15_DoubleBack.j5 k w n F L) true := by
  refine Ev.step (fun k => by rw [cognatelaw15_DoubleBack.j5]) (Ev.bind (single_ev F L w n) ?_)
  by_cases hn : n < 0 ∨ 64 < n
  · have e1 : singleV F L w n = ((⟨#[]⟩ : ByteArray), false, 2) := by
      unfold singleV
      rw [if_pos he, if_pos hn]
    rw [e1]
    exact Ev.ifn (by decide) (Ev.step (fun k => by rw [cognatelaw15_DoubleBack.j6]) (Ev.ifp rfl (Ev.ret (by rw [ByteArray.toList_eq]; rfl))))
  · have e1 : singleV F L w n = singleL (lettersV F L w).1 n := by
      unfold singleV
      rw [if_pos he, if_neg hn]
    have h2 : (singleV F L w n).2.2 = 0 := by
      rw [e1]
      unfold singleL
      split <;> rfl
    refine Ev.ifp h2 ?_
    rcases hb : (singleV F L w n).2.1 with _ | _
    · rw [e1] at hb
      have := single_empty hb
      rw [e1, this.1]
      refine Ev.step (fun k => by rw [cognatelaw15_DoubleBack.j6]) (Ev.ifp (by rfl) (Ev.ret ?_))
      rw [ByteArray.toList_eq]
      rfl
    · exact doubleBack_j4 F L w n he (by omega) (by omega) hb
theorem doubleBack_j1 (F : List ByteArray) (L : List S53) (w : ByteArray) (n : Int) (he : (lettersV F L w).2 = 0) : Ev (fun k => cognatelaw15_DoubleBack.j2 k w n (lettersV F L w).1 F L) true := by
  obtain ⟨hck, _, hw, hmem⟩ := letters_ok he
  have hl := lettersV_len F L w
  refine Ev.step (fun k => by rw [cognatelaw15_DoubleBack.j2]) (Ev.someb (fun _ => whole_eq F L w) ?_)
  have hv : wholeV F L w = (runesBytes ((lettersV F L w).1 ++ (lettersV F L w).1), 0) := by unfold wholeV; rw [if_pos he]
  rw [hv]
  generalize (lettersV F L w).1 = l at hl hw hmem
  refine Ev.ifp rfl ?_
  have hno : Ev (fun k => cognatelaw15_DoubleBack.j3 k w n l (runesBytes (l ++ l)) false F L) true :=
    Ev.step (fun k => by rw [cognatelaw15_DoubleBack.j3]) (Ev.ifn (by decide) (doubleBack_j3 F L w n he))
  by_cases h0 : (l.length : Int) > 0
  · refine Ev.ifp h0 ?_
    have hwr : wrap64 (2 * (l.length : Int)) = ((2 * l.length : Nat) : Int) := by rw [w64 (by omega)]; omega
    rw [hwr]
    by_cases h64 : ((2 * l.length : Nat) : Int) ≤ 64
    · rw [decide_eq_true h64]
      have hback := letters_back hck (l ++ l) (fun y hy => hmem y ((List.mem_append.1 hy).elim id id)) (by rw [List.length_append]; omega)
      have hcut : cutV (l ++ l) 0 = l.length := by unfold cutV; rw [if_pos rfl, List.length_append]; omega
      have hh : halfB ((l ++ l).take (2 * l.length)) = true := by
        rw [List.take_of_length_le (by rw [List.length_append]; omega), halfB_iff]
        exact ⟨l, rfl⟩
      have hs : singleV F L (runesBytes (l ++ l)) 0 = (w, true, 0) := by
        unfold singleV
        rw [hback, if_pos rfl, if_neg (by omega), single_yes hcut (by rw [hh, List.length_append]; rintro (h | h | ⟨_, h⟩ | h) <;> first | omega | cases h), List.drop_left, hw]
      obtain ⟨t, ht⟩ := runs_double l (by omega)
      have hr : runsOf F L (runesBytes (l ++ l)) = (⟨0, ((2 * l.length : Nat) : Int)⟩ :: t, 0) := by
        unfold runsOf
        rw [hback, if_pos rfl, ht]
      refine Ev.step (fun k => by rw [cognatelaw15_DoubleBack.j3]) (Ev.ifp rfl (Ev.bind (single_ev F L _ 0) (Ev.bind (runs_ev F L _) ?_)))
      rw [hs, hr]
      refine Ev.ifp rfl (Ev.ifp rfl (Ev.ifp rfl (Ev.ifp rfl (Ev.ifn (by simp only [List.length_cons]; omega) (Ev.ifp (by simp only [List.length_cons]; omega) (Ev.step (fun k => by rw [cognatelaw15_DoubleBack.j4]) (Ev.ifn ?_ (doubleBack_j3 F L w n he))))))))
      rw [hwr]
      simp [rd_T35]
    · rw [decide_eq_false h64]
      exact hno
  · exact Ev.ifn h0 hno
theorem doubleBack_law (F : List ByteArray) (L : List S53) (w : ByteArray) (n : Int) (_ : (Lit.int .i64 n).wf = true) : ∃ k, cognatelaw15_DoubleBack.f k F L w n = some true := by
  refine Ev.rounds (Ev.bind awake_ev (Ev.ifp rfl (Ev.someb (fun _ => letters_eq F L w) ?_)))
  have hl := lettersV_len F L w
  by_cases he : (lettersV F L w).2 = 0
  · obtain ⟨hck, _, hw, hmem⟩ := letters_ok he
    refine Ev.ifp he (Ev.bind (front_ev F L w n) ?_)
    have hno : ∀ y, Ev (fun k => cognatelaw15_DoubleBack.j0 k w n (lettersV F L w).1 y false F L) true := fun y =>
      Ev.step (fun k => by rw [cognatelaw15_DoubleBack.j0]) (Ev.ifn (by decide) (doubleBack_j1 F L w n he))
    by_cases h2 : (frontV F L w n).2 = 0
    · refine Ev.ifp h2 ?_
      by_cases hn : n > 0
      · refine Ev.ifp hn ?_
        have hfr := h2
        unfold frontV at hfr
        rw [if_pos he] at hfr
        split at hfr
        · simp at hfr
        · split at hfr
          · simp at hfr
          · rename_i c1 c2
            have hwr : wrap64 (((lettersV F L w).1.length : Int) + n) = ((lettersV F L w).1.length : Int) + n := w64 (by omega)
            rw [hwr]
            by_cases h64 : ((lettersV F L w).1.length : Int) + n ≤ 64
            · rw [decide_eq_true h64]
              have hv : frontV F L w n = (runesBytes ((lettersV F L w).1.take n.toNat ++ (lettersV F L w).1), 0) := by unfold frontV; rw [if_pos he, if_neg c1, if_neg c2]
              rw [hv]
              have hj1 := doubleBack_j1 F L w n he
              generalize (lettersV F L w).1 = l at hl hw hmem hj1 h64 c2
              have hback := letters_back hck (l.take n.toNat ++ l) (fun y hy => (List.mem_append.1 hy).elim (fun h => hmem y (List.mem_of_mem_take h)) (hmem y)) (by rw [List.length_append, List.length_take]; omega)
              have hcut : cutV (l.take n.toNat ++ l) n = n.toNat := by unfold cutV; rw [if_neg (by omega)]
              have htl : (l.take n.toNat).length = n.toNat := by rw [List.length_take]; omega
              have hh : halfB ((l.take n.toNat ++ l).take (2 * n.toNat)) = true := by
                rw [halfB_iff]
                refine ⟨l.take n.toNat, ?_⟩
                rw [List.take_append, htl, List.take_of_length_le (by omega), show 2 * n.toNat - n.toNat = n.toNat by omega]
              have hs : singleV F L (runesBytes (l.take n.toNat ++ l)) n = (w, true, 0) := by
                unfold singleV
                rw [hback, if_pos rfl, if_neg (by omega), single_yes hcut (by rw [hh, List.length_append, htl]; rintro (h | h | ⟨_, h⟩ | h) <;> first | omega | cases h)]
                have : (l.take n.toNat ++ l).drop n.toNat = l := by
                  conv => lhs; arg 1; rw [← htl]
                  exact List.drop_left
                rw [this, hw]
              refine Ev.step (fun k => by rw [cognatelaw15_DoubleBack.j0]) (Ev.ifp rfl (Ev.bind (single_ev F L _ n) ?_))
              rw [hs]
              exact Ev.ifp rfl (Ev.ifp rfl (Ev.step (fun k => by rw [cognatelaw15_DoubleBack.j1]) (Ev.ifn (by simp) hj1)))
            · rw [decide_eq_false h64]
              exact hno _
      · exact Ev.ifn hn (hno _)
    · exact Ev.ifn h2 (hno _)
  · refine Ev.ifn he (Ev.bind (front_ev F L w n) (Ev.bind (single_ev F L w n) ?_))
    have h1 : (frontV F L w n).2 = (lettersV F L w).2 := by unfold frontV; rw [if_neg he]
    have h2 : (singleV F L w n).2.2 = (lettersV F L w).2 := by unfold singleV; rw [if_neg he]
    exact Ev.ifp h1 (Ev.ret (by rw [h2]; simp))
end Go.Proofs.YtjnikjnkmcbjfaaDoor.X
