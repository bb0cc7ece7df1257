/- FeatureTexts, walked: each call by its contract; all answers are the document's. -/
import Derived.Test.YtjnikjnkmcbjfaaDoorGAlive
import Derived.Test.YtjnikjnkmcbjfaaDoorPSame
import Derived.Test.YtjnikjnkmcbjfaaDoorPRefTexts
import Derived.Deep.DeepCutAuto
namespace Go.Proofs.YtjnikjnkmcbjfaaDoor.X
open Go.RowKit Go.Proofs.YtjnikjnkmcbjfaaDoorW.PrintWords Go.Proofs.YtjnikjnkmcbjfaaDoorW.PrintLast Go.Proofs.YtjnikjnkmcbjfaaDoorW.PrintMore
set_option maxHeartbeats 8000000 in
set_option maxRecDepth 100000 in
theorem featureTexts_any (A0_0 : Option Addr) (c0_0 : Nat) (F : List ByteArray) (A0_1 : Option Addr) (c0_1 : Nat) (L : List S53) (A1 : Option Addr) (c1 : Nat) (l : List Int) (s : ByteArray) (p m : Int) (w : World)
    (hw : WfL L) (hF : F.length * 16 ≤ 140737488351232) (hL : L.length * 12 ≤ 140737488351232) (hp : (Lit.int .u32 p).wf = true) (hm : (Lit.int .u32 m).wf = true)
    (hr0_0 : Kd.C Kd.string w A0_0 F.length F) (hc0_0 : F.length ≤ c0_0) (hr0_1 : Kd.C k53 w A0_1 L.length L) (hc0_1 : L.length ≤ c0_1) (hr1 : Kd.C (Kd.int .i32) w A1 l.length l) (hc1 : l.length ≤ c1) :
    Calls Tryd.prog 13 #[.agg #[.slice A0_0 F.length c0_0, .slice A0_1 L.length c0_1], .slice A1 l.length c1, .string s, .int .u32 p, .int .u32 m] w fun e w' => e = .returned (.bool true) ∧ Below w.heap.size w w' := by
  have HR0 := Aside0.mk hr0_0
  have HC0 := Aside0.mk hc0_0
  have HR1 := Aside0.mk hr0_1
  have HC1 := Aside0.mk hc0_1
  have HRl := Aside0.mk hr1
  have HCl := Aside0.mk hc1
  have W0 := Aside0.mk (below_alloc (Below.refl _ w) (.cells #[.slice A0_0 F.length c0_0, .slice A0_1 L.length c0_1] 25))
  have K0 := Aside0.mk (blk_new w (.cells #[.slice A0_0 F.length c0_0, .slice A0_1 L.length c0_1] 25))
  have TW := Aside0.mk (twin_eq F L (by omega) (by omega))
  have AK := Aside0.mk (alike_ev F L (by omega) (by omega)).rounds
  have Q2 := Aside0.mk (refText_ev F L p m (u32_of_wf hp) (u32_of_wf hm)).rounds
  have LS := Aside0.mk (fun h : l.length ≤ 300 => (refLeast_ev F L hw l (by omega)).rounds)
  clear hr0_0 hc0_0 hr0_1 hc0_1 hr1 hc1 hw hF hL hp hm
  obtain ⟨skip, hskip⟩ : ∃ skip : Bool, skip = (decide (300 < l.length) || ((decide (5000 < s.size) && decide (s.size ≤ 65536)) || decide (200000 < s.size))) := ⟨_, rfl⟩
  have SK := Aside0.mk hskip
  clear hskip
  go_enter Tryd.func13, Tryd.ntmps13
  go_wp2_with fail
  refine (alive_any _).mono ?_
  rintro e w1 ⟨rfl, hb⟩
  have W1 := Aside0.mk (below_step W0.out hb)
  have K1 := Aside0.mk (blk_below K0.out hb)
  clear hb W0 K0
  go_upto_region 4 with (fail)
  go_cut [57] (fun v57 wc => v57 = .bool skip ∧ Aside0 (Below w.heap.size w wc) ∧ Aside0 (wc.heap[w.heap.size]? = some (.cells #[.slice A0_0 F.length c0_0, .slice A0_1 L.length c0_1] 25 (0, 0))))
  case first =>
    by_cases h1 : 300 < l.length
    · skip
      have n1 : decide (300 < l.length) = true := decide_eq_true h1
      have i1 : decide (300 < (l.length : Int)) = true := decide_eq_true (by omega)
      obtain rfl : skip = true := by rw [SK.out]; simp; omega
      clear h1
      go_wp2
      go_meet
      case rel => exact ⟨rfl, W1, K1⟩
    · by_cases h2 : 5000 < s.size
      · by_cases h3 : s.size ≤ 65536
        · skip
          have n1 : decide (300 < l.length) = false := decide_eq_false h1
          have i1 : decide (300 < (l.length : Int)) = false := decide_eq_false (by omega)
          have n2 : decide (5000 < s.size) = true := decide_eq_true h2
          have i2 : decide (5000 < (s.size : Int)) = true := decide_eq_true (by omega)
          have n3 : decide (s.size ≤ 65536) = true := decide_eq_true h3
          have i3 : decide ((s.size : Int) ≤ 65536) = true := decide_eq_true (by omega)
          obtain rfl : skip = true := by rw [SK.out]; simp; omega
          clear h1 h2 h3
          go_wp2
          go_meet
          case rel => exact ⟨rfl, W1, K1⟩
        · by_cases h4 : 200000 < s.size
          · skip
            have n1 : decide (300 < l.length) = false := decide_eq_false h1
            have i1 : decide (300 < (l.length : Int)) = false := decide_eq_false (by omega)
            have n2 : decide (5000 < s.size) = true := decide_eq_true h2
            have i2 : decide (5000 < (s.size : Int)) = true := decide_eq_true (by omega)
            have n3 : decide (s.size ≤ 65536) = false := decide_eq_false h3
            have i3 : decide ((s.size : Int) ≤ 65536) = false := decide_eq_false (by omega)
            have n4 : decide (200000 < s.size) = true := decide_eq_true h4
            have i4 : decide (200000 < (s.size : Int)) = true := decide_eq_true (by omega)
            obtain rfl : skip = true := by rw [SK.out]; simp; omega
            clear h1 h2 h3 h4
            go_wp2
            go_meet
            case rel => exact ⟨rfl, W1, K1⟩
          · skip
            have n1 : decide (300 < l.length) = false := decide_eq_false h1
            have i1 : decide (300 < (l.length : Int)) = false := decide_eq_false (by omega)
            have n2 : decide (5000 < s.size) = true := decide_eq_true h2
            have i2 : decide (5000 < (s.size : Int)) = true := decide_eq_true (by omega)
            have n3 : decide (s.size ≤ 65536) = false := decide_eq_false h3
            have i3 : decide ((s.size : Int) ≤ 65536) = false := decide_eq_false (by omega)
            have n4 : decide (200000 < s.size) = false := decide_eq_false h4
            have i4 : decide (200000 < (s.size : Int)) = false := decide_eq_false (by omega)
            obtain rfl : skip = false := by rw [SK.out]; simp; omega
            clear h1 h2 h3 h4
            go_wp2
            go_meet
            case rel => exact ⟨rfl, W1, K1⟩
      · by_cases h4 : 200000 < s.size
        · skip
          have n1 : decide (300 < l.length) = false := decide_eq_false h1
          have i1 : decide (300 < (l.length : Int)) = false := decide_eq_false (by omega)
          have n2 : decide (5000 < s.size) = false := decide_eq_false h2
          have i2 : decide (5000 < (s.size : Int)) = false := decide_eq_false (by omega)
          have n4 : decide (200000 < s.size) = true := decide_eq_true h4
          have i4 : decide (200000 < (s.size : Int)) = true := decide_eq_true (by omega)
          obtain rfl : skip = true := by rw [SK.out]; simp; omega
          clear h1 h2 h4
          go_wp2
          go_meet
          case rel => exact ⟨rfl, W1, K1⟩
        · skip
          have n1 : decide (300 < l.length) = false := decide_eq_false h1
          have i1 : decide (300 < (l.length : Int)) = false := decide_eq_false (by omega)
          have n2 : decide (5000 < s.size) = false := decide_eq_false h2
          have i2 : decide (5000 < (s.size : Int)) = false := decide_eq_false (by omega)
          have n4 : decide (200000 < s.size) = false := decide_eq_false h4
          have i4 : decide (200000 < (s.size : Int)) = false := decide_eq_false (by omega)
          obtain rfl : skip = false := by rw [SK.out]; simp; omega
          clear h1 h2 h4
          go_wp2
          go_meet
          case rel => exact ⟨rfl, W1, K1⟩
  case rest =>
    clear W1 K1
    obtain ⟨rfl, W2, K2⟩ := hcut
    cases skip with
    | true =>
      go_wp2
      go_ret
      exact ⟨rfl, W2.out⟩
    | false =>
      have hl : l.length ≤ 300 := by
        have := SK.out
        simp at this
        omega
      have HL300 := Aside0.mk hl
      obtain ⟨x1, x2, x3, hx⟩ : ∃ x1 x2 x3, leastV F L l = (x1, x2, x3) := ⟨_, _, _, rfl⟩
      obtain ⟨t1, t2, ht⟩ : ∃ t1 t2, textV F L p m = (t1, t2) := ⟨_, _, rfl⟩
      obtain ⟨u1, u2, u3, u4, hu⟩ : ∃ u1 u2 u3 u4, parseV F L s = (u1, u2, u3, u4) := ⟨_, _, _, _, rfl⟩
      obtain ⟨y1, y2, hy⟩ : ∃ y1 y2, featBitV F L s = (y1, y2) := ⟨_, _, rfl⟩
      obtain ⟨q1, hq1⟩ := (least_ev F L l).rounds
      obtain ⟨q4, hq4⟩ := (bit_ev F L s).rounds
      obtain ⟨q5, hq5⟩ := LS.out hl
      obtain ⟨q6, hq6⟩ := Q2.out
      obtain ⟨q7, hq7⟩ := (refParse_ev F L s).rounds
      obtain ⟨q8, hq8⟩ := (refBit_ev F L s).rounds
      obtain ⟨q9, hq9⟩ := AK.out
      obtain ⟨q10, hq10⟩ := (same_ev l (by omega)).rounds
      rw [hx] at hq1 hq5
      rw [ht] at hq6
      rw [hu] at hq7
      rw [hy] at hq4 hq8
      have R1 := Aside0.mk hq1
      have R2 := Aside0.mk (show feature_Text.f F L p m = some (t1, t2) by rw [← ht]; rfl)
      have R3 := Aside0.mk (show feature_Parse.f F L s = some (u1, u2, u3, u4) by rw [← hu]; rfl)
      have R4 := Aside0.mk hq4
      have R5 := Aside0.mk hq5
      have R6 := Aside0.mk hq6
      have R7 := Aside0.mk hq7
      have R8 := Aside0.mk hq8
      have R9 := Aside0.mk hq9
      have R10 := Aside0.mk hq10
      clear hx ht hu hy hq1 hq4 hq5 hq6 hq7 hq8 hq9 hq10 hl
      have kA0 : wc.cell? ⟨w.heap.size, 0, none⟩ = some (.slice A0_0 F.length c0_0) := (blk_cell K2.out 0).trans rfl
      have kA1 : wc.cell? ⟨w.heap.size, 1, none⟩ = some (.slice A0_1 L.length c0_1) := (blk_cell K2.out 1).trans rfl
      go_wp2_with fail
      refine (cognatelaw02_twin.calls A0_0 c0_0 F A0_1 c0_1 L F L _ (Kd.C_below HR0.out W2.out) HC0.out (Kd.C_below HR1.out W2.out) HC1.out TW.out).mono ?_
      rintro e w3 ⟨v0, v1, rfl, h0, h1, hb⟩
      obtain ⟨B0, d0, rfl, hd0, hD0⟩ := Kd.R_reads h0
      obtain ⟨B1, d1, rfl, hd1, hD1⟩ := Kd.R_reads h1
      have D0 := Aside0.mk hD0
      have D1 := Aside0.mk hD1
      have E0 := Aside0.mk hd0
      have E1 := Aside0.mk hd1
      have W3 := Aside0.mk (below_alloc (below_step W2.out hb) (.cells #[.slice B0 F.length d0, .slice B1 L.length d1] 25))
      have K3 := Aside0.mk (blk_alloc (blk_below K2.out hb) (.cells #[.slice B0 F.length d0, .slice B1 L.length d1] 25))
      have J3 := Aside0.mk (blk_new w3 (.cells #[.slice B0 F.length d0, .slice B1 L.length d1] 25))
      have V3 := Aside0.mk (below_alloc (Below.refl _ w3) (.cells #[.slice B0 F.length d0, .slice B1 L.length d1] 25))
      clear hb h0 h1 hD0 hD1 hd0 hd1 kA0 kA1
      go_wp2_with ((with_reducible refine gate_builtin (b := .append) (xs := #[.tmp 60, .tmp 61]) rfl ?_); at_builtin; refine Kd.R_append_rows (Kd.int .i32) (w0 := w) w.heap.size rfl (.tmp 60) (.tmp 61) 37 21 (.int .i32 0) 4 rfl Tryd.underlying37 info21 rfl (by decide) (by omega) (.slice none 0 0) ([] : List Int) l _ _ _ (fun _ => True) (fun _ => False) rfl rfl ?aO ?aR (fun _ _ h => h) (fun _ h => h.elim) ?aF ?aB ?aS ?aL ?_; (case aR => exact Kd.C_below HRl.out W3.out); (case aB => exact W3.out); (case aF => exact (fun _ _ => trivial)); (case aO => exact Kd.R_nil _ _ _ _ (fun _ => True)); (case aS => exact W3.out.size); (case aL => have := HL300.out; simp; omega); intro vm w4 ho hb hg hat; have W4 := Aside0.mk hb; have K4 := Aside0.mk (blk_grown K3.out hg (show some w.heap.size ≠ none by simp)); have J4 := Aside0.mk (blk_grown J3.out hg (show some w3.heap.size ≠ none by simp)); have V4 := Aside0.mk (V3.out.grown hg V3.out.size (fun k (e : none = some k) => by cases e)); rw [List.nil_append] at ho; obtain ⟨M, cm, rfl, hcm, hCm⟩ := Kd.R_reads ho; have HCm := Aside0.mk hcm; have HM := Aside0.mk hCm; have X4 := Aside0.mk (Below.refl w4.heap.size w4); have kB0 : w4.cell? ⟨w3.heap.size, 0, none⟩ = some (.slice B0 F.length d0) := (blk_cell J4.out 0).trans rfl; have kB1 : w4.cell? ⟨w3.heap.size, 1, none⟩ = some (.slice B1 L.length d1) := (blk_cell J4.out 1).trans rfl; clear ho hb hg hat hcm hCm)

      refine (feature_Least.calls q1 B0 d0 F B1 d1 L M cm l x1 x2 x3 _ (Kd.C_below D0.out V4.out) E0.out (Kd.C_below D1.out V4.out) E1.out HM.out HCm.out R1.out).mono ?_
      rintro e w5 ⟨rfl, hb⟩
      have W5 := Aside0.mk (below_step W4.out hb)
      have V5 := Aside0.mk (below_step V4.out hb)
      have X5 := Aside0.mk (below_step X4.out hb)
      have K5 := Aside0.mk (blk_below K4.out hb)
      have J5 := Aside0.mk (blk_below J4.out hb)
      clear hb W4 V4 X4 K4 J4
      clear kB0 kB1
      have kB0 : w5.cell? ⟨w3.heap.size, 0, none⟩ = some (.slice B0 F.length d0) := (blk_cell J5.out 0).trans rfl
      have kB1 : w5.cell? ⟨w3.heap.size, 1, none⟩ = some (.slice B1 L.length d1) := (blk_cell J5.out 1).trans rfl

      go_wp2_with fail
      refine (feature_Text.calls B0 d0 F B1 d1 L p m t1 t2 _ (Kd.C_below D0.out V5.out) E0.out (Kd.C_below D1.out V5.out) E1.out R2.out).mono ?_
      rintro e w6 ⟨rfl, hb⟩
      have W6 := Aside0.mk (below_step W5.out hb)
      have V6 := Aside0.mk (below_step V5.out hb)
      have X6 := Aside0.mk (below_step X5.out hb)
      have K6 := Aside0.mk (blk_below K5.out hb)
      have J6 := Aside0.mk (blk_below J5.out hb)
      clear hb W5 V5 X5 K5 J5
      clear kB0 kB1
      have kB0 : w6.cell? ⟨w3.heap.size, 0, none⟩ = some (.slice B0 F.length d0) := (blk_cell J6.out 0).trans rfl
      have kB1 : w6.cell? ⟨w3.heap.size, 1, none⟩ = some (.slice B1 L.length d1) := (blk_cell J6.out 1).trans rfl

      go_wp2_with fail
      refine (feature_Parse.calls B0 d0 F B1 d1 L s u1 u2 u3 u4 _ (Kd.C_below D0.out V6.out) E0.out (Kd.C_below D1.out V6.out) E1.out R3.out).mono ?_
      rintro e w7 ⟨rfl, hb⟩
      have W7 := Aside0.mk (below_step W6.out hb)
      have V7 := Aside0.mk (below_step V6.out hb)
      have X7 := Aside0.mk (below_step X6.out hb)
      have K7 := Aside0.mk (blk_below K6.out hb)
      have J7 := Aside0.mk (blk_below J6.out hb)
      clear hb W6 V6 X6 K6 J6
      clear kB0 kB1
      have kB0 : w7.cell? ⟨w3.heap.size, 0, none⟩ = some (.slice B0 F.length d0) := (blk_cell J7.out 0).trans rfl
      have kB1 : w7.cell? ⟨w3.heap.size, 1, none⟩ = some (.slice B1 L.length d1) := (blk_cell J7.out 1).trans rfl

      go_wp2_with fail
      refine (feature_Bit.calls q4 B0 d0 F B1 d1 L s y1 y2 _ (Kd.C_below D0.out V7.out) E0.out (Kd.C_below D1.out V7.out) E1.out R4.out).mono ?_
      rintro e w8 ⟨rfl, hb⟩
      have W8 := Aside0.mk (below_step W7.out hb)
      have V8 := Aside0.mk (below_step V7.out hb)
      have X8 := Aside0.mk (below_step X7.out hb)
      have K8 := Aside0.mk (blk_below K7.out hb)
      have J8 := Aside0.mk (blk_below J7.out hb)
      clear hb W7 V7 X7 K7 J7
      clear kB0 kB1
      have kA0 : w8.cell? ⟨w.heap.size, 0, none⟩ = some (.slice A0_0 F.length c0_0) := (blk_cell K8.out 0).trans rfl
      have kA1 : w8.cell? ⟨w.heap.size, 1, none⟩ = some (.slice A0_1 L.length c0_1) := (blk_cell K8.out 1).trans rfl

      go_wp2_with fail
      refine (cognateref02_Least.calls q5 A0_0 c0_0 F A0_1 c0_1 L A1 c1 l x1 x2 x3 _ (Kd.C_below HR0.out W8.out) HC0.out (Kd.C_below HR1.out W8.out) HC1.out (Kd.C_below HRl.out W8.out) HCl.out R5.out).mono ?_
      rintro e w9 ⟨rfl, hb⟩
      have W9 := Aside0.mk (below_step W8.out hb)
      have V9 := Aside0.mk (below_step V8.out hb)
      have X9 := Aside0.mk (below_step X8.out hb)
      have K9 := Aside0.mk (blk_below K8.out hb)
      have J9 := Aside0.mk (blk_below J8.out hb)
      clear hb W8 V8 X8 K8 J8
      clear kA0 kA1
      have kA0 : w9.cell? ⟨w.heap.size, 0, none⟩ = some (.slice A0_0 F.length c0_0) := (blk_cell K9.out 0).trans rfl
      have kA1 : w9.cell? ⟨w.heap.size, 1, none⟩ = some (.slice A0_1 L.length c0_1) := (blk_cell K9.out 1).trans rfl

      go_wp2_with fail
      refine (cognateref02_Text.calls q6 A0_0 c0_0 F A0_1 c0_1 L p m t1 t2 _ (Kd.C_below HR0.out W9.out) HC0.out (Kd.C_below HR1.out W9.out) HC1.out R6.out).mono ?_
      rintro e w10 ⟨rfl, hb⟩
      have W10 := Aside0.mk (below_step W9.out hb)
      have V10 := Aside0.mk (below_step V9.out hb)
      have X10 := Aside0.mk (below_step X9.out hb)
      have K10 := Aside0.mk (blk_below K9.out hb)
      have J10 := Aside0.mk (blk_below J9.out hb)
      clear hb W9 V9 X9 K9 J9
      clear kA0 kA1
      have kA0 : w10.cell? ⟨w.heap.size, 0, none⟩ = some (.slice A0_0 F.length c0_0) := (blk_cell K10.out 0).trans rfl
      have kA1 : w10.cell? ⟨w.heap.size, 1, none⟩ = some (.slice A0_1 L.length c0_1) := (blk_cell K10.out 1).trans rfl

      go_wp2_with fail
      refine (cognateref02_Parse.calls q7 A0_0 c0_0 F A0_1 c0_1 L s u1 u2 u3 u4 _ (Kd.C_below HR0.out W10.out) HC0.out (Kd.C_below HR1.out W10.out) HC1.out R7.out).mono ?_
      rintro e w11 ⟨rfl, hb⟩
      have W11 := Aside0.mk (below_step W10.out hb)
      have V11 := Aside0.mk (below_step V10.out hb)
      have X11 := Aside0.mk (below_step X10.out hb)
      have K11 := Aside0.mk (blk_below K10.out hb)
      have J11 := Aside0.mk (blk_below J10.out hb)
      clear hb W10 V10 X10 K10 J10
      clear kA0 kA1
      have kA0 : w11.cell? ⟨w.heap.size, 0, none⟩ = some (.slice A0_0 F.length c0_0) := (blk_cell K11.out 0).trans rfl
      have kA1 : w11.cell? ⟨w.heap.size, 1, none⟩ = some (.slice A0_1 L.length c0_1) := (blk_cell K11.out 1).trans rfl

      go_wp2_with fail
      refine (cognateref02_Bit.calls q8 A0_0 c0_0 F A0_1 c0_1 L s y1 y2 _ (Kd.C_below HR0.out W11.out) HC0.out (Kd.C_below HR1.out W11.out) HC1.out R8.out).mono ?_
      rintro e w12 ⟨rfl, hb⟩
      have W12 := Aside0.mk (below_step W11.out hb)
      have V12 := Aside0.mk (below_step V11.out hb)
      have X12 := Aside0.mk (below_step X11.out hb)
      have K12 := Aside0.mk (blk_below K11.out hb)
      have J12 := Aside0.mk (blk_below J11.out hb)
      clear hb W11 V11 X11 K11 J11
      clear kA0 kA1
      have kA0 : w12.cell? ⟨w.heap.size, 0, none⟩ = some (.slice A0_0 F.length c0_0) := (blk_cell K12.out 0).trans rfl
      have kA1 : w12.cell? ⟨w.heap.size, 1, none⟩ = some (.slice A0_1 L.length c0_1) := (blk_cell K12.out 1).trans rfl
      have kB0 : w12.cell? ⟨w3.heap.size, 0, none⟩ = some (.slice B0 F.length d0) := (blk_cell J12.out 0).trans rfl
      have kB1 : w12.cell? ⟨w3.heap.size, 1, none⟩ = some (.slice B1 L.length d1) := (blk_cell J12.out 1).trans rfl

      go_wp2_with fail
      refine (cognatelaw02_alike.calls q9 A0_0 c0_0 F A0_1 c0_1 L B0 d0 F B1 d1 L true _ (Kd.C_below HR0.out W12.out) HC0.out (Kd.C_below HR1.out W12.out) HC1.out (Kd.C_below D0.out V12.out) E0.out (Kd.C_below D1.out V12.out) E1.out R9.out).mono ?_
      rintro e w13 ⟨rfl, hb⟩
      have W13 := Aside0.mk (below_step W12.out hb)
      have X13 := Aside0.mk (below_step X12.out hb)
      clear hb kA0 kA1 kB0 kB1
      go_wp2_with fail
      refine (cognateref02_Same.calls q10 A1 c1 l M cm l true _ (Kd.C_below HRl.out W13.out) HCl.out (Kd.C_below HM.out X13.out) HCm.out R10.out).mono ?_
      rintro e w14 ⟨rfl, hd⟩
      have W14 := Aside0.mk (below_step W13.out hd.below)
      clear hd
      go_wp2
      go_ret
      exact ⟨rfl, W14.out⟩
end Go.Proofs.YtjnikjnkmcbjfaaDoor.X
