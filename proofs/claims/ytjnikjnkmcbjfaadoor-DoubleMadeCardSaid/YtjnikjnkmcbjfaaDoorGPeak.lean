/- double.Peak, walked: slices.IndexFunc with its closure; all up to the first letter of the class doubled. -/
import Derived.Test.YtjnikjnkmcbjfaaDoorPMade
import Derived.Test.YtjnikjnkmcbjfaaDoorX20
import Derived.Test.YtjnikjnkmcbjfaaDoorX26
namespace Go.Proofs.YtjnikjnkmcbjfaaDoor.X
open Go.RowKit Go.Proofs.YtjnikjnkmcbjfaaDoorW.PrintWords Go.Proofs.YtjnikjnkmcbjfaaDoorW.PrintLast Go.Proofs.YtjnikjnkmcbjfaaDoorW.PrintMore
theorem index_l0 (C : List Int) (x : Int) (hC : C.length ≤ 1000000) : ∀ (d i : Nat), C.length - i = d → i ≤ C.length → (∀ (j : Nat) (hj : j < C.length), j < i → C[j] ≠ x) → ∃ n : Int, Ev (fun k => slices_Index_rune_rune.l0 k C x (C.length : Int) (i : Int)) n ∧ (n ≥ 0 ↔ x ∈ C) := by
  intro d
  induction d with
  | zero =>
    intro i hd hi hf
    refine ⟨-1, Ev.step (fun k => by rw [slices_Index_rune_rune.l0]) (Ev.ifn (by omega) (Ev.now _)), ⟨fun h => by omega, fun h => ?_⟩⟩
    obtain ⟨j, hj, e⟩ := List.getElem_of_mem h
    exact absurd e (hf j hj (by omega))
  | succ d ih =>
    intro i hd hi hf
    have hi2 : i < C.length := by omega
    by_cases e : x = C[i]
    · refine ⟨(i : Int), Ev.step (fun k => by rw [slices_Index_rune_rune.l0]) (Ev.ifp (by omega) (Ev.ifp (by omega) (Ev.ifp (by omega) (Ev.ifp (by rw [rdn C i hi2]; exact e) (Ev.now _))))), ⟨fun _ => by rw [e]; exact List.getElem_mem hi2, fun _ => by omega⟩⟩
    · obtain ⟨n, h1, h2⟩ := ih (i + 1) (by omega) (by omega) (fun j hj hji => by
        rcases Nat.lt_or_ge j i with h | h
        · exact hf j hj h
        · obtain rfl : j = i := by omega
          exact fun h => e h.symm)
      refine ⟨n, Ev.step (fun k => by rw [slices_Index_rune_rune.l0]) (Ev.ifp (by omega) (Ev.ifp (by omega) (Ev.ifp (by omega) (Ev.ifn (by rw [rdn C i hi2]; exact e) ?_)))), h2⟩
      rw [w64s (by omega)]
      exact h1
theorem contains_ev (C : List Int) (x : Int) (hC : C.length ≤ 1000000) : Ev (fun k => slices_Contains_rune_rune.f k C x) (decide (x ∈ C)) := by
  obtain ⟨n, h1, h2⟩ := index_l0 C x hC C.length 0 rfl (by omega) (fun j hj h => by omega)
  refine Ev.bind h1 (Ev.ret ?_)
  rw [decide_eq_decide]
  exact h2
def idxC (C l : List Int) : Int := match l.findIdx? (fun r => decide (r ∈ C)) with | some i => (i : Int) | none => -1
theorem idxC_none {C l : List Int} (h : ∀ (i : Nat), i < l.length → rd l (i : Int) ∉ C) : idxC C l = -1 := by
  unfold idxC
  rw [List.findIdx?_eq_none_iff.2 (fun x hx => ?_)]
  obtain ⟨i, hi, rfl⟩ := List.getElem_of_mem hx
  have := h i hi
  rw [rdn l i hi] at this
  simpa using this
theorem idxC_some {C l : List Int} {i : Nat} (hi : i < l.length) (hm : rd l (i : Int) ∈ C) (h : ∀ (j : Nat), j < i → rd l (j : Int) ∉ C) : idxC C l = (i : Int) := by
  unfold idxC
  rw [show l.findIdx? (fun r => decide (r ∈ C)) = some i from List.findIdx?_eq_some_iff_getElem.2 ⟨hi, by rw [rdn l i hi] at hm; simpa using hm, fun j hj => by have := h j hj; rw [rdn l j (by omega)] at this; simpa using this⟩]
set_option maxHeartbeats 1000000 in
set_option maxRecDepth 100000 in
theorem peak_lit (A : Option Addr) (c : Nat) (C : List Int) (x : Int) (B : Nat) (b : Bool) (w : World) (hb : decide (x ∈ C) = b) (hl : C.length ≤ 1000000) (hB : w.cell? ⟨B, 0, none⟩ = some (.slice A C.length c)) (hC : Kd.C (Kd.int .i32) w A C.length C) (hc : C.length ≤ c) :
    Calls Tryd.prog 89 #[.int .i32 x, .pointer (some ⟨B, 0, none⟩)] w fun e w' => e = .returned (.bool b) ∧ Below w.heap.size w w' := by
  obtain ⟨k, hk⟩ := (contains_ev C x hl).rounds
  rw [hb] at hk
  have HK := Aside0.mk hk
  have HC := Aside0.mk hC
  have HL := Aside0.mk hc
  clear hk hC hc hb hl
  go_enter Tryd.func89, Tryd.ntmps89
  go_wp2_with fail
  refine (slices_Contains_rune_rune.calls k A c C x b _ HC.out HL.out HK.out).mono ?_
  rintro e w2 ⟨rfl, hd⟩
  have HB := Aside0.mk hd.below
  clear hd
  go_wp2
  go_ret
  exact ⟨rfl, HB.out⟩
set_option maxHeartbeats 1000000 in
set_option maxRecDepth 100000 in
theorem peak_index (A : Option Addr) (c : Nat) (l : List Int) (A2 : Option Addr) (c2 : Nat) (C : List Int) (B : Nat) (w : World) (hl : C.length ≤ 1000000) (hB : w.cell? ⟨B, 0, none⟩ = some (.slice A2 C.length c2)) (hC : Kd.C (Kd.int .i32) w A2 C.length C) (hc : C.length ≤ c2) (hr : Kd.C (Kd.int .i32) w A l.length l) :
    Calls Tryd.prog 88 #[.slice A l.length c, .func (.func 89) #[] #[.pointer (some ⟨B, 0, none⟩)]] w fun e w' => e = .returned (.int .i64 (idxC C l)) ∧ Below w.heap.size w w' := by
  have HR := Aside0.mk hr
  have HX := Aside0.mk hB
  have HC := Aside0.mk hC
  have HL := Aside0.mk hc
  have HZ := Aside0.mk hl
  have hlen : l.length ≤ 9223372036854775807 := hr.2.1
  clear hr hB hC hc hl
  go_enter Tryd.func88, Tryd.ntmps88
  go_wp2
  go_loopw [8] (fun v w' => ∃ i : Nat, i ≤ l.length ∧ v = .int .i64 i ∧ Aside0 (∀ j : Nat, j < i → rd l (j : Int) ∉ C) ∧ Aside0 (Below w.heap.size w w')) (fun v _ => l.length - (intOf v).toNat)
  case atStart => exact ⟨0, by omega, rfl, ⟨fun j hj => absurd hj (Nat.not_lt_zero _)⟩, ⟨Below.refl _ _⟩⟩
  case round =>
    obtain ⟨i, hi, rfl, HF, HB⟩ := hrel
    rcases Nat.lt_or_ge i l.length with hlt | hge
    · have p0 : 0 ≤ (i : Int) := by omega
      have q0 : (i : Int) < (l.length : Int) := by omega
      obtain ⟨ad, ea, hx⟩ := Kd.at_int HR.out (i : Int) p0 q0
      cases ea
      replace hx := (HB.out.cell (World.block_lt_of_cell? w _ hx)).trans hx
      rw [Int.toNat_natCast] at hx
      obtain ⟨b, hd⟩ : ∃ b, decide (rd l (i : Int) ∈ C) = b := ⟨_, rfl⟩
      have HD := Aside0.mk hd
      clear hd
      cases b with
      | false =>
        go_wp2_with (go_at_call 89; refine (peak_lit A2 c2 C _ B false _ HD.out HZ.out ((HB.out.cell (World.block_lt_of_cell? w _ HX.out)).trans HX.out) (Kd.C_below HC.out HB.out) HL.out).mono ?_; rintro e w2 ⟨rfl, hb⟩)
        go_roundw
        case rel =>
          refine ⟨i + 1, by omega, by go_num, ⟨fun j hj => ?_⟩, ⟨below_step HB.out hb⟩⟩
          rcases Nat.lt_or_ge j i with h | h
          · exact HF.out j h
          · obtain rfl : j = i := by omega
            simpa using HD.out
        case measure => simp [intOf]; omega
      | true =>
        go_wp2_with (go_at_call 89; refine (peak_lit A2 c2 C _ B true _ HD.out HZ.out ((HB.out.cell (World.block_lt_of_cell? w _ HX.out)).trans HX.out) (Kd.C_below HC.out HB.out) HL.out).mono ?_; rintro e w2 ⟨rfl, hb⟩)
        go_ret
        exact ⟨by rw [idxC_some hlt (by simpa using HD.out) HF.out]; rfl, below_step HB.out hb⟩
    · obtain rfl : i = l.length := by omega
      go_wp2
      go_ret
      exact ⟨by rw [idxC_none HF.out]; rfl, HB.out⟩
theorem class_len2 (F : List ByteArray) (L : List S53) (p m : Int) : (classV F L p m).1.length ≤ 1000000 := by
  unfold classV
  by_cases hc : checkB F L = true
  · have h := (check_feats hc).2.2
    by_cases hwi : withinB F p m = true
    · rw [if_pos hc, if_pos hwi, List.length_map]
      exact Nat.le_trans (Nat.le_trans (List.length_filter_le _ _) h) (by decide)
    · rw [if_pos hc, if_neg hwi]
      exact Nat.zero_le _
  · rw [if_neg hc]
    exact Nat.zero_le _
theorem peakL_idx (C l : List Int) : (idxC C l = -1 ∧ peakL C l = ((⟨#[]⟩ : ByteArray), 150)) ∨ ∃ i : Nat, i < l.length ∧ idxC C l = (i : Int) ∧ peakL C l = (runesBytes (l.take (i + 1) ++ l), 0) := by
  unfold idxC peakL
  cases h : l.findIdx? (fun r => decide (r ∈ C)) with
  | none => exact Or.inl ⟨rfl, rfl⟩
  | some i => exact Or.inr ⟨i, (List.findIdx?_eq_some_iff_getElem.1 h).1, rfl, rfl⟩
def double_Peak.f (l0_0 : List ByteArray) (l0_1 : List S53) (a1 : ByteArray) (a2 : Int) : Option (ByteArray × Int) := some (peakV l0_0 l0_1 a1 a2)
set_option maxHeartbeats 2000000 in
set_option maxRecDepth 100000 in
theorem double_Peak.calls (A0_0 : Option Addr) (c0_0 : Nat) (l0_0 : List ByteArray) (A0_1 : Option Addr) (c0_1 : Nat) (l0_1 : List S53) (a1 : ByteArray) (a2 : Int) (r1 : ByteArray) (r2 : Int) (w : World) (hT0 : Tabs w) (hr0_0 : Kd.C Kd.string w A0_0 l0_0.length l0_0) (hc0_0 : l0_0.length ≤ c0_0) (hr0_1 : Kd.C k53 w A0_1 l0_1.length l0_1) (hc0_1 : l0_1.length ≤ c0_1) (h : double_Peak.f l0_0 l0_1 a1 a2 = some (r1, r2)) :
    Calls Tryd.prog 48 #[.agg #[.slice A0_0 l0_0.length c0_0, .slice A0_1 l0_1.length c0_1], .string a1, .int .u32 a2] w fun e w' => e = .returned (.tuple #[.string r1, .int .i64 r2]) ∧ Below w.heap.size w w' := by
  have h' := Option.some.inj h
  have hlen := lettersV_len l0_0 l0_1 a1
  have hlet := lettersV_letter l0_0 l0_1 a1
  obtain ⟨l, e1, hl⟩ : ∃ l e, lettersV l0_0 l0_1 a1 = (l, e) := ⟨_, _, rfl⟩
  obtain ⟨C, e2, hC⟩ : ∃ l e, classV l0_0 l0_1 a2 0 = (l, e) := ⟨_, _, rfl⟩
  have hz := class_len2 l0_0 l0_1 a2 0
  obtain ⟨q, hq⟩ := (class_ev l0_0 l0_1 a2 0).rounds
  unfold peakV at h'
  rw [hl, hC] at h'
  rw [hl] at hlen hlet
  rw [hC] at hz hq
  simp only at h' hlen hlet hz
  have HR0 := Aside0.mk hr0_0
  have HC0 := Aside0.mk hc0_0
  have HR1 := Aside0.mk hr0_1
  have HC1 := Aside0.mk hc0_1
  have HT := Aside0.mk hT0
  have HQ := Aside0.mk hq
  have HZ := Aside0.mk hz
  have HLn := Aside0.mk hlen
  have HLt := Aside0.mk hlet
  have HL := Aside0.mk (show word_Letters.f l0_0 l0_1 a1 = some (l, e1) by rw [letters_eq, hl])
  have KA := Aside0.mk (blk_new w (.cells #[.slice A0_0 l0_0.length c0_0, .slice A0_1 l0_1.length c0_1] 25))
  have HB := Aside0.mk (below_alloc (Below.refl _ w) (.cells #[.slice A0_0 l0_0.length c0_0, .slice A0_1 l0_1.length c0_1] 25))
  clear hr0_0 hc0_0 hr0_1 hc0_1 hT0 hq hz h hl hC hlen hlet
  by_cases he1 : e1 = 0
  · have b1 : (e1 != 0) = false := bne_eq_false_iff_eq.mpr he1
    rw [if_pos he1] at h'
    by_cases he2 : e2 = 0
    · have b2 : (e2 != 0) = false := bne_eq_false_iff_eq.mpr he2
      rw [if_pos he2] at h'
      have HV := Aside0.mk h'
      clear h' he1 he2
      go_enter Tryd.func48, Tryd.ntmps48
      go_wp2_with fail
      refine (word_Letters.calls _ _ l0_0 _ _ l0_1 a1 l e1 _ (HT.out.below HB.out) (Kd.C_below HR0.out HB.out) HC0.out (Kd.C_below HR1.out HB.out) HC1.out HL.out).mono ?_
      rintro e w2 ⟨v, rfl, hv, hb⟩
      obtain ⟨A, c, rfl, hlc, hC⟩ := Kd.R_reads hv
      have BW := Aside0.mk (below_step HB.out hb)
      have K2 := Aside0.mk (blk_below KA.out hb)
      have LC := Aside0.mk hlc
      have LR := Aside0.mk hC
      have k0 : w2.cell? ⟨w.heap.size, 0, none⟩ = some (.slice A0_0 l0_0.length c0_0) := (blk_cell K2.out 0).trans rfl
      have k1 : w2.cell? ⟨w.heap.size, 1, none⟩ = some (.slice A0_1 l0_1.length c0_1) := (blk_cell K2.out 1).trans rfl
      clear hv hb hlc hC
      go_wp2_with fail
      refine (feature_Class.calls q _ _ l0_0 _ _ l0_1 a2 0 C e2 _ (Kd.C_below HR0.out BW.out) HC0.out (Kd.C_below HR1.out BW.out) HC1.out HQ.out).mono ?_
      rintro e w3 ⟨v, rfl, hv, hb⟩
      obtain ⟨A2, c2, rfl, hlc, hC⟩ := Kd.R_reads hv
      have hx := below_alloc (Below.refl _ w3) (.cells #[.slice A2 C.length c2] 37)
      have B3 := Aside0.mk (below_alloc (below_step BW.out hb) (.cells #[.slice A2 C.length c2] 37))
      have LC2 := Aside0.mk hlc
      have LR2 := Aside0.mk (Kd.C_below hC hx)
      have LR3 := Aside0.mk (Kd.C_below (Kd.C_below LR.out hb) hx)
      have KB := Aside0.mk ((blk_cell (blk_new w3 (.cells #[.slice A2 C.length c2] 37)) 0).trans rfl : (w3.alloc (.cells #[.slice A2 C.length c2] 37)).cell? ⟨w3.heap.size, 0, none⟩ = some (.slice A2 C.length c2))
      clear hv hb hlc hC hx k0 k1 LR
      go_wp2_with fail
      refine (peak_index A c l A2 c2 C w3.heap.size _ HZ.out KB.out LR2.out LC2.out LR3.out).mono ?_
      rintro e w4 ⟨rfl, hb⟩
      have B4 := Aside0.mk (below_step B3.out hb)
      have LR4 := Aside0.mk (Kd.C_below LR3.out hb)
      clear hb LR3 LR2 KB
      rcases peakL_idx C l with ⟨hi, hv⟩ | ⟨i, hi, hi2, hv⟩
      · have hv2 := HV.out
        rw [hv] at hv2
        injection hv2 with f1 f2
        rw [hi]
        subst f1
        subst f2
        go_wp2
        go_ret2
        exact ⟨rfl, B4.out⟩
      · have hv2 := HV.out
        rw [hv] at hv2
        injection hv2 with f1 f2
        rw [hi2]
        have i0 : decide ((i : Int) < 0) = false := decide_eq_false (by omega)
        have hw : wrap64 ((i : Int) + 1) = ((i + 1 : Nat) : Int) := w64s (by have := HLn.out; omega)
        have hp := put_eq l (i + 1) (by omega) (by have := HLn.out; omega) HLt.out
        rw [f1, ← hw] at hp
        have HP := Aside0.mk hp
        subst f2
        clear hi hi2 hv f1 hp hw HV
        go_wp2_with fail
        refine (double_put.calls A c l _ r1 _ LR4.out LC.out HP.out).mono ?_
        rintro e w5 ⟨rfl, hd⟩
        have B5 := Aside0.mk (below_step B4.out hd.below)
        clear hd
        go_wp2
        go_ret2
        exact ⟨rfl, B5.out⟩
    · have b2 : (e2 != 0) = true := bne_iff_ne.mpr he2
      rw [if_neg he2] at h'
      injection h' with f1 f2
      subst f1
      subst f2
      clear he1 he2
      go_enter Tryd.func48, Tryd.ntmps48
      go_wp2_with fail
      refine (word_Letters.calls _ _ l0_0 _ _ l0_1 a1 l e1 _ (HT.out.below HB.out) (Kd.C_below HR0.out HB.out) HC0.out (Kd.C_below HR1.out HB.out) HC1.out HL.out).mono ?_
      rintro e w2 ⟨v, rfl, hv, hb⟩
      obtain ⟨A, c, rfl, hlc, hC⟩ := Kd.R_reads hv
      have BW := Aside0.mk (below_step HB.out hb)
      have K2 := Aside0.mk (blk_below KA.out hb)
      have k0 : w2.cell? ⟨w.heap.size, 0, none⟩ = some (.slice A0_0 l0_0.length c0_0) := (blk_cell K2.out 0).trans rfl
      have k1 : w2.cell? ⟨w.heap.size, 1, none⟩ = some (.slice A0_1 l0_1.length c0_1) := (blk_cell K2.out 1).trans rfl
      clear hv hb hlc hC
      go_wp2_with fail
      refine (feature_Class.calls q _ _ l0_0 _ _ l0_1 a2 0 C e2 _ (Kd.C_below HR0.out BW.out) HC0.out (Kd.C_below HR1.out BW.out) HC1.out HQ.out).mono ?_
      rintro e w3 ⟨v, rfl, hv, hb⟩
      obtain ⟨A2, c2, rfl, hlc, hC⟩ := Kd.R_reads hv
      have B3 := Aside0.mk (below_alloc (below_step BW.out hb) (.cells #[.slice A2 C.length c2] 37))
      clear hv hb hlc hC k0 k1
      go_wp2
      go_ret2
      exact ⟨rfl, B3.out⟩
  · have b1 : (e1 != 0) = true := bne_iff_ne.mpr he1
    rw [if_neg he1] at h'
    injection h' with f1 f2
    subst f1
    subst f2
    clear he1
    go_enter Tryd.func48, Tryd.ntmps48
    go_wp2_with fail
    refine (word_Letters.calls _ _ l0_0 _ _ l0_1 a1 l e1 _ (HT.out.below HB.out) (Kd.C_below HR0.out HB.out) HC0.out (Kd.C_below HR1.out HB.out) HC1.out HL.out).mono ?_
    rintro e w2 ⟨v, rfl, hv, hb⟩
    obtain ⟨A, c, rfl, hlc, hC⟩ := Kd.R_reads hv
    have BW := Aside0.mk (below_step HB.out hb)
    clear hv hb hlc hC
    go_wp2
    go_ret2
    exact ⟨rfl, BW.out⟩
theorem peak_ev (F : List ByteArray) (L : List S53) (s : ByteArray) (p : Int) : Ev (fun _ => double_Peak.f F L s p) (peakV F L s p) := Ev.now _
end Go.Proofs.YtjnikjnkmcbjfaaDoor.X
