/- DoubleMade, walked: each call by its contract; all answers are the document's. -/
import Derived.Test.YtjnikjnkmcbjfaaDoorGPeak
namespace Go.Proofs.YtjnikjnkmcbjfaaDoor.X
open Go.RowKit Go.Proofs.YtjnikjnkmcbjfaaDoorW.PrintWords Go.Proofs.YtjnikjnkmcbjfaaDoorW.PrintLast Go.Proofs.YtjnikjnkmcbjfaaDoorW.PrintMore
set_option linter.unusedVariables false
set_option linter.unusedSimpArgs false
set_option maxHeartbeats 8000000 in
set_option maxRecDepth 100000 in
theorem doubleMade_any (A0_0 : Option Addr) (c0_0 : Nat) (F : List ByteArray) (A0_1 : Option Addr) (c0_1 : Nat) (L : List S53) (s : ByteArray) (n p : Int) (w : World) (hT : Tabs w)
    (hw : WfL L) (hn : (Lit.int .i64 n).wf = true) (hp : (Lit.int .u32 p).wf = true)
    (hr0_0 : Kd.C Kd.string w A0_0 F.length F) (hc0_0 : F.length ≤ c0_0) (hr0_1 : Kd.C k53 w A0_1 L.length L) (hc0_1 : L.length ≤ c0_1) :
    Calls Tryd.prog 12 #[.agg #[.slice A0_0 F.length c0_0, .slice A0_1 L.length c0_1], .string s, .int .i64 n, .int .u32 p] w fun e w' => e = .returned (.bool true) ∧ Below w.heap.size w w' := by
  obtain ⟨x1, x2, hx⟩ : ∃ a b, frontV F L s n = (a, b) := ⟨_, _, rfl⟩
  obtain ⟨y1, y2, hy⟩ : ∃ a b, wholeV F L s = (a, b) := ⟨_, _, rfl⟩
  obtain ⟨z1, z2, hz⟩ : ∃ a b, peakV F L s p = (a, b) := ⟨_, _, rfl⟩
  obtain ⟨u1, u2, u3, hu⟩ : ∃ a b c, singleV F L s n = (a, b, c) := ⟨_, _, _, rfl⟩
  obtain ⟨q0, h0⟩ := awake_ev.rounds
  obtain ⟨q1, h1⟩ := (front_ev F L s n).rounds
  obtain ⟨q2, h2⟩ := (refFront_ev F L s n).rounds
  obtain ⟨q3, h3⟩ := (refWhole_ev F L s).rounds
  obtain ⟨q4, h4⟩ := (refPeak_ev F L hw s p (u32_of_wf hp)).rounds
  obtain ⟨q5, h5⟩ := (single_ev F L s n).rounds
  obtain ⟨q6, h6⟩ := (refSingle_ev F L s n).rounds
  rw [hx] at h1 h2
  rw [hy] at h3
  rw [hz] at h4
  rw [hu] at h5 h6
  have Q0 := Aside0.mk h0
  have Q1 := Aside0.mk h1
  have Q2 := Aside0.mk h2
  have QW := Aside0.mk (show double_Whole.f F L s = some (y1, y2) by rw [whole_eq, hy])
  have Q3 := Aside0.mk h3
  have QP := Aside0.mk (show double_Peak.f F L s p = some (z1, z2) by rw [← hz]; rfl)
  have Q4 := Aside0.mk h4
  have Q5 := Aside0.mk h5
  have Q6 := Aside0.mk h6
  have HR0 := Aside0.mk hr0_0
  have HC0 := Aside0.mk hc0_0
  have HR1 := Aside0.mk hr0_1
  have HC1 := Aside0.mk hc0_1
  have HT := Aside0.mk hT
  have HB := Aside0.mk (below_alloc (Below.refl _ w) (.cells #[.slice A0_0 F.length c0_0, .slice A0_1 L.length c0_1] 25))
  have KA := Aside0.mk (blk_new w (.cells #[.slice A0_0 F.length c0_0, .slice A0_1 L.length c0_1] 25))
  clear h0 h1 h2 h3 h4 h5 h6 hx hy hz hu hr0_0 hc0_0 hr0_1 hc0_1 hT hw hn hp
  go_enter Tryd.func12, Tryd.ntmps12
  go_wp2_with fail
  refine (cognatelaw15_awake.calls q0 true _ (HT.out.below HB.out) Q0.out).mono ?_
  rintro e w1 ⟨rfl, hb⟩
  have n_ := Aside0.mk (below_step HB.out hb)
  clear HB
  have HB := n_
  clear n_
  have n_ := Aside0.mk (blk_below KA.out hb)
  clear KA
  have KA := n_
  clear n_ hb
  have k0 : w1.cell? ⟨w.heap.size, 0, none⟩ = some (.slice A0_0 F.length c0_0) := (blk_cell KA.out 0).trans rfl
  have k1 : w1.cell? ⟨w.heap.size, 1, none⟩ = some (.slice A0_1 L.length c0_1) := (blk_cell KA.out 1).trans rfl
  go_wp2_with fail
  refine (double_Front.calls q1 A0_0 c0_0 F A0_1 c0_1 L s n x1 x2 _ (HT.out.below HB.out) (Kd.C_below HR0.out HB.out) HC0.out (Kd.C_below HR1.out HB.out) HC1.out Q1.out).mono ?_
  rintro e w2 ⟨rfl, hb⟩
  clear k0 k1
  have n_ := Aside0.mk (below_step HB.out hb)
  clear HB
  have HB := n_
  clear n_
  have n_ := Aside0.mk (blk_below KA.out hb)
  clear KA
  have KA := n_
  clear n_ hb
  have k0 : w2.cell? ⟨w.heap.size, 0, none⟩ = some (.slice A0_0 F.length c0_0) := (blk_cell KA.out 0).trans rfl
  have k1 : w2.cell? ⟨w.heap.size, 1, none⟩ = some (.slice A0_1 L.length c0_1) := (blk_cell KA.out 1).trans rfl
  go_wp2_with fail
  refine (cognateref15_Front.calls q2 A0_0 c0_0 F A0_1 c0_1 L s n x1 x2 _ (HT.out.below HB.out) (Kd.C_below HR0.out HB.out) HC0.out (Kd.C_below HR1.out HB.out) HC1.out Q2.out).mono ?_
  rintro e w3 ⟨rfl, hb⟩
  clear k0 k1
  have n_ := Aside0.mk (below_step HB.out hb)
  clear HB
  have HB := n_
  clear n_
  have n_ := Aside0.mk (blk_below KA.out hb)
  clear KA
  have KA := n_
  clear n_ hb
  have k0 : w3.cell? ⟨w.heap.size, 0, none⟩ = some (.slice A0_0 F.length c0_0) := (blk_cell KA.out 0).trans rfl
  have k1 : w3.cell? ⟨w.heap.size, 1, none⟩ = some (.slice A0_1 L.length c0_1) := (blk_cell KA.out 1).trans rfl
  go_wp2_with fail
  refine (double_Whole.calls A0_0 c0_0 F A0_1 c0_1 L s y1 y2 _ (HT.out.below HB.out) (Kd.C_below HR0.out HB.out) HC0.out (Kd.C_below HR1.out HB.out) HC1.out QW.out).mono ?_
  rintro e w4 ⟨rfl, hb⟩
  clear k0 k1
  have n_ := Aside0.mk (below_step HB.out hb)
  clear HB
  have HB := n_
  clear n_
  have n_ := Aside0.mk (blk_below KA.out hb)
  clear KA
  have KA := n_
  clear n_ hb
  have k0 : w4.cell? ⟨w.heap.size, 0, none⟩ = some (.slice A0_0 F.length c0_0) := (blk_cell KA.out 0).trans rfl
  have k1 : w4.cell? ⟨w.heap.size, 1, none⟩ = some (.slice A0_1 L.length c0_1) := (blk_cell KA.out 1).trans rfl
  go_wp2_with fail
  refine (cognateref15_Whole.calls q3 A0_0 c0_0 F A0_1 c0_1 L s y1 y2 _ (HT.out.below HB.out) (Kd.C_below HR0.out HB.out) HC0.out (Kd.C_below HR1.out HB.out) HC1.out Q3.out).mono ?_
  rintro e w5 ⟨rfl, hb⟩
  clear k0 k1
  have n_ := Aside0.mk (below_step HB.out hb)
  clear HB
  have HB := n_
  clear n_
  have n_ := Aside0.mk (blk_below KA.out hb)
  clear KA
  have KA := n_
  clear n_ hb
  have k0 : w5.cell? ⟨w.heap.size, 0, none⟩ = some (.slice A0_0 F.length c0_0) := (blk_cell KA.out 0).trans rfl
  have k1 : w5.cell? ⟨w.heap.size, 1, none⟩ = some (.slice A0_1 L.length c0_1) := (blk_cell KA.out 1).trans rfl
  go_wp2_with fail
  refine (double_Peak.calls A0_0 c0_0 F A0_1 c0_1 L s p z1 z2 _ (HT.out.below HB.out) (Kd.C_below HR0.out HB.out) HC0.out (Kd.C_below HR1.out HB.out) HC1.out QP.out).mono ?_
  rintro e w6 ⟨rfl, hb⟩
  clear k0 k1
  have n_ := Aside0.mk (below_step HB.out hb)
  clear HB
  have HB := n_
  clear n_
  have n_ := Aside0.mk (blk_below KA.out hb)
  clear KA
  have KA := n_
  clear n_ hb
  have k0 : w6.cell? ⟨w.heap.size, 0, none⟩ = some (.slice A0_0 F.length c0_0) := (blk_cell KA.out 0).trans rfl
  have k1 : w6.cell? ⟨w.heap.size, 1, none⟩ = some (.slice A0_1 L.length c0_1) := (blk_cell KA.out 1).trans rfl
  go_wp2_with fail
  refine (cognateref15_Peak.calls q4 A0_0 c0_0 F A0_1 c0_1 L s p z1 z2 _ (HT.out.below HB.out) (Kd.C_below HR0.out HB.out) HC0.out (Kd.C_below HR1.out HB.out) HC1.out Q4.out).mono ?_
  rintro e w7 ⟨rfl, hb⟩
  clear k0 k1
  have n_ := Aside0.mk (below_step HB.out hb)
  clear HB
  have HB := n_
  clear n_
  have n_ := Aside0.mk (blk_below KA.out hb)
  clear KA
  have KA := n_
  clear n_ hb
  have k0 : w7.cell? ⟨w.heap.size, 0, none⟩ = some (.slice A0_0 F.length c0_0) := (blk_cell KA.out 0).trans rfl
  have k1 : w7.cell? ⟨w.heap.size, 1, none⟩ = some (.slice A0_1 L.length c0_1) := (blk_cell KA.out 1).trans rfl
  go_wp2_with fail
  refine (double_Single.calls q5 A0_0 c0_0 F A0_1 c0_1 L s n u1 u2 u3 _ (HT.out.below HB.out) (Kd.C_below HR0.out HB.out) HC0.out (Kd.C_below HR1.out HB.out) HC1.out Q5.out).mono ?_
  rintro e w8 ⟨rfl, hb⟩
  clear k0 k1
  have n_ := Aside0.mk (below_step HB.out hb)
  clear HB
  have HB := n_
  clear n_
  have n_ := Aside0.mk (blk_below KA.out hb)
  clear KA
  have KA := n_
  clear n_ hb
  have k0 : w8.cell? ⟨w.heap.size, 0, none⟩ = some (.slice A0_0 F.length c0_0) := (blk_cell KA.out 0).trans rfl
  have k1 : w8.cell? ⟨w.heap.size, 1, none⟩ = some (.slice A0_1 L.length c0_1) := (blk_cell KA.out 1).trans rfl
  go_wp2_with fail
  refine (cognateref15_Single.calls q6 A0_0 c0_0 F A0_1 c0_1 L s n u1 u2 u3 _ (HT.out.below HB.out) (Kd.C_below HR0.out HB.out) HC0.out (Kd.C_below HR1.out HB.out) HC1.out Q6.out).mono ?_
  rintro e w9 ⟨rfl, hb⟩
  clear k0 k1
  have n_ := Aside0.mk (below_step HB.out hb)
  clear HB
  have HB := n_
  clear n_
  have n_ := Aside0.mk (blk_below KA.out hb)
  clear KA
  have KA := n_
  clear n_ hb
  clear KA HR0 HR1 HT Q0 Q1 Q2 QW Q3 QP Q4 Q5 Q6
  go_wp2
  go_ret
  exact ⟨rfl, HB.out⟩
end Go.Proofs.YtjnikjnkmcbjfaaDoor.X
