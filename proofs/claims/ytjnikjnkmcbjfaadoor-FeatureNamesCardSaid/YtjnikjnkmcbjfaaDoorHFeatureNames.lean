/- FeatureNames, walked: every answer on the way is known. -/
import Derived.Test.YtjnikjnkmcbjfaaDoorGAlive
import Derived.Test.YtjnikjnkmcbjfaaDoorGCheck
import Derived.Test.YtjnikjnkmcbjfaaDoorX15
import Derived.Test.YtjnikjnkmcbjfaaDoorX28
import Derived.Deep.DeepCutAuto
namespace Go.Proofs.YtjnikjnkmcbjfaaDoor.X
open Go.RowKit Go.Proofs.YtjnikjnkmcbjfaaDoorW.PrintWords Go.Proofs.YtjnikjnkmcbjfaaDoorW.PrintLast Go.Proofs.YtjnikjnkmcbjfaaDoorW.PrintMore
set_option linter.unusedVariables false
set_option linter.unusedSimpArgs false
theorem names_1 : ∃ F L, cognatelaw02_full.f 300 24 128 = some (F, L) ∧ feature_Check.f F L = some 0 ∧ feature_Least.f 300 F L (List.replicate 129 0) = some (0, 0, 4) ∧ feature_Least.f 300 F L (List.replicate 128 0) = some (0, 0, 5) := by
  cases hx : cognatelaw02_full.f 300 24 128 with
  | none =>
    have h : (cognatelaw02_full.f 300 24 128).isSome = true := by kernel_rfl
    rw [hx] at h
    cases h
  | some p =>
    refine ⟨p.1, p.2, rfl, ?_, ?_, ?_⟩
    · have h : ((cognatelaw02_full.f 300 24 128).bind fun p => feature_Check.f p.1 p.2) = some 0 := by kernel_rfl
      rw [hx] at h
      exact h
    · have h : ((cognatelaw02_full.f 300 24 128).bind fun p => feature_Least.f 300 p.1 p.2 (List.replicate 129 0)) = some (0, 0, 4) := by kernel_rfl
      rw [hx] at h
      exact h
    · have h : ((cognatelaw02_full.f 300 24 128).bind fun p => feature_Least.f 300 p.1 p.2 (List.replicate 128 0)) = some (0, 0, 5) := by kernel_rfl
      rw [hx] at h
      exact h
theorem full_ex {n m e : Int} (h : ((cognatelaw02_full.f 300 n m).bind fun p => feature_Check.f p.1 p.2) = some e) : ∃ F L, cognatelaw02_full.f 300 n m = some (F, L) ∧ feature_Check.f F L = some e := by
  cases hx : cognatelaw02_full.f 300 n m with
  | none => rw [hx] at h; cases h
  | some p => rw [hx] at h; exact ⟨p.1, p.2, rfl, h⟩
theorem names_2 : ∃ F L, cognatelaw02_full.f 300 25 128 = some (F, L) ∧ feature_Check.f F L = some 7 := full_ex (by kernel_rfl)
theorem names_3 : ∃ F L, cognatelaw02_full.f 300 24 129 = some (F, L) ∧ feature_Check.f F L = some 7 := full_ex (by kernel_rfl)
theorem names_4 : ∃ F L, cognatelaw02_full.f 300 24 0 = some (F, L) ∧ feature_Check.f F L = some 7 := full_ex (by kernel_rfl)
theorem names_5 : ∃ F L, cognatelaw02_full.f 300 0 1 = some (F, L) ∧ feature_Check.f F L = some 7 := full_ex (by kernel_rfl)
def mayL : List Int := [97, 122, 65, 90, 161, 55295, 57344, 65532, 65534, 1114111]
def notL : List Int := [0, 32, 48, 95, 64, 91, 96, 123, 160, 127, 55296, 57343, 65533, 1114112, (-1)]
theorem may_ok (i : Nat) (hi : i < 10) : feature_Check.f [] [(⟨rd mayL (i : Int), 0, 0⟩ : S53)] = some 0 := by
  match i, hi with
  | 0, _ => exact (by kernel_rfl : feature_Check.f [] [(⟨rd mayL ((0 : Nat) : Int), 0, 0⟩ : S53)] = some 0)
  | 1, _ => exact (by kernel_rfl : feature_Check.f [] [(⟨rd mayL ((1 : Nat) : Int), 0, 0⟩ : S53)] = some 0)
  | 2, _ => exact (by kernel_rfl : feature_Check.f [] [(⟨rd mayL ((2 : Nat) : Int), 0, 0⟩ : S53)] = some 0)
  | 3, _ => exact (by kernel_rfl : feature_Check.f [] [(⟨rd mayL ((3 : Nat) : Int), 0, 0⟩ : S53)] = some 0)
  | 4, _ => exact (by kernel_rfl : feature_Check.f [] [(⟨rd mayL ((4 : Nat) : Int), 0, 0⟩ : S53)] = some 0)
  | 5, _ => exact (by kernel_rfl : feature_Check.f [] [(⟨rd mayL ((5 : Nat) : Int), 0, 0⟩ : S53)] = some 0)
  | 6, _ => exact (by kernel_rfl : feature_Check.f [] [(⟨rd mayL ((6 : Nat) : Int), 0, 0⟩ : S53)] = some 0)
  | 7, _ => exact (by kernel_rfl : feature_Check.f [] [(⟨rd mayL ((7 : Nat) : Int), 0, 0⟩ : S53)] = some 0)
  | 8, _ => exact (by kernel_rfl : feature_Check.f [] [(⟨rd mayL ((8 : Nat) : Int), 0, 0⟩ : S53)] = some 0)
  | 9, _ => exact (by kernel_rfl : feature_Check.f [] [(⟨rd mayL ((9 : Nat) : Int), 0, 0⟩ : S53)] = some 0)
  | i + 10, h => omega
theorem not_ok (i : Nat) (hi : i < 15) : feature_Check.f [] [(⟨rd notL (i : Int), 0, 0⟩ : S53)] = some 7 := by
  match i, hi with
  | 0, _ => exact (by kernel_rfl : feature_Check.f [] [(⟨rd notL ((0 : Nat) : Int), 0, 0⟩ : S53)] = some 7)
  | 1, _ => exact (by kernel_rfl : feature_Check.f [] [(⟨rd notL ((1 : Nat) : Int), 0, 0⟩ : S53)] = some 7)
  | 2, _ => exact (by kernel_rfl : feature_Check.f [] [(⟨rd notL ((2 : Nat) : Int), 0, 0⟩ : S53)] = some 7)
  | 3, _ => exact (by kernel_rfl : feature_Check.f [] [(⟨rd notL ((3 : Nat) : Int), 0, 0⟩ : S53)] = some 7)
  | 4, _ => exact (by kernel_rfl : feature_Check.f [] [(⟨rd notL ((4 : Nat) : Int), 0, 0⟩ : S53)] = some 7)
  | 5, _ => exact (by kernel_rfl : feature_Check.f [] [(⟨rd notL ((5 : Nat) : Int), 0, 0⟩ : S53)] = some 7)
  | 6, _ => exact (by kernel_rfl : feature_Check.f [] [(⟨rd notL ((6 : Nat) : Int), 0, 0⟩ : S53)] = some 7)
  | 7, _ => exact (by kernel_rfl : feature_Check.f [] [(⟨rd notL ((7 : Nat) : Int), 0, 0⟩ : S53)] = some 7)
  | 8, _ => exact (by kernel_rfl : feature_Check.f [] [(⟨rd notL ((8 : Nat) : Int), 0, 0⟩ : S53)] = some 7)
  | 9, _ => exact (by kernel_rfl : feature_Check.f [] [(⟨rd notL ((9 : Nat) : Int), 0, 0⟩ : S53)] = some 7)
  | 10, _ => exact (by kernel_rfl : feature_Check.f [] [(⟨rd notL ((10 : Nat) : Int), 0, 0⟩ : S53)] = some 7)
  | 11, _ => exact (by kernel_rfl : feature_Check.f [] [(⟨rd notL ((11 : Nat) : Int), 0, 0⟩ : S53)] = some 7)
  | 12, _ => exact (by kernel_rfl : feature_Check.f [] [(⟨rd notL ((12 : Nat) : Int), 0, 0⟩ : S53)] = some 7)
  | 13, _ => exact (by kernel_rfl : feature_Check.f [] [(⟨rd notL ((13 : Nat) : Int), 0, 0⟩ : S53)] = some 7)
  | 14, _ => exact (by kernel_rfl : feature_Check.f [] [(⟨rd notL ((14 : Nat) : Int), 0, 0⟩ : S53)] = some 7)
  | i + 15, h => omega
def longL : List Int := List.replicate 33 120
theorem long_succ (i : Nat) (hi : i < 33) : (List.replicate i (120 : Int) ++ List.replicate (33 - i) 0).set i 120 = List.replicate (i + 1) 120 ++ List.replicate (33 - (i + 1)) 0 := by
  match i, hi with
  | 0, _ => rfl
  | 1, _ => rfl
  | 2, _ => rfl
  | 3, _ => rfl
  | 4, _ => rfl
  | 5, _ => rfl
  | 6, _ => rfl
  | 7, _ => rfl
  | 8, _ => rfl
  | 9, _ => rfl
  | 10, _ => rfl
  | 11, _ => rfl
  | 12, _ => rfl
  | 13, _ => rfl
  | 14, _ => rfl
  | 15, _ => rfl
  | 16, _ => rfl
  | 17, _ => rfl
  | 18, _ => rfl
  | 19, _ => rfl
  | 20, _ => rfl
  | 21, _ => rfl
  | 22, _ => rfl
  | 23, _ => rfl
  | 24, _ => rfl
  | 25, _ => rfl
  | 26, _ => rfl
  | 27, _ => rfl
  | 28, _ => rfl
  | 29, _ => rfl
  | 30, _ => rfl
  | 31, _ => rfl
  | 32, _ => rfl
  | i + 33, h => omega
def nameL : List ByteArray := [strOfNums longL, ⟨#[]⟩, ⟨#[65]⟩, ⟨#[97, 49]⟩, ⟨#[195, 169]⟩, ⟨#[97, 32, 98]⟩]
theorem name_0 : feature_Check.f ((nameL.take 1).drop 0) [(⟨97, 0, 0⟩ : S53)] = some 7 := by kernel_rfl
theorem name_1 : feature_Check.f ((nameL.take 2).drop 1) [(⟨97, 0, 0⟩ : S53)] = some 7 := by kernel_rfl
theorem name_2 : feature_Check.f ((nameL.take 3).drop 2) [(⟨97, 0, 0⟩ : S53)] = some 7 := by kernel_rfl
theorem name_3 : feature_Check.f ((nameL.take 4).drop 3) [(⟨97, 0, 0⟩ : S53)] = some 7 := by kernel_rfl
theorem name_4 : feature_Check.f ((nameL.take 5).drop 4) [(⟨97, 0, 0⟩ : S53)] = some 7 := by kernel_rfl
theorem name_5 : feature_Check.f ((nameL.take 6).drop 5) [(⟨97, 0, 0⟩ : S53)] = some 7 := by kernel_rfl
theorem name_ok (i : Nat) (hi : i < 6) : feature_Check.f ((nameL.take (i + 1)).drop i) [(⟨97, 0, 0⟩ : S53)] = some 7 := by
  match i, hi with
  | 0, _ => exact name_0
  | 1, _ => exact name_1
  | 2, _ => exact name_2
  | 3, _ => exact name_3
  | 4, _ => exact name_4
  | 5, _ => exact name_5
  | i + 6, h => omega
theorem two_ok : feature_Check.f [strOfNums (longL.take 32), ⟨#[121]⟩] [(⟨97, 0, 0⟩ : S53)] = some 0 := by kernel_rfl
theorem last_1 : feature_Check.f [⟨#[120]⟩, ⟨#[120]⟩] [(⟨97, 0, 0⟩ : S53)] = some 7 := by kernel_rfl
theorem last_2 : feature_Check.f [] [(⟨97, 0, 0⟩ : S53), (⟨97, 0, 0⟩ : S53)] = some 7 := by kernel_rfl
theorem last_3 : feature_Check.f [⟨#[120]⟩] [(⟨97, 1, 1⟩ : S53)] = some 7 := by kernel_rfl
theorem last_4 : feature_Check.f [⟨#[120]⟩] [(⟨97, 2, 0⟩ : S53)] = some 7 := by kernel_rfl
def namesT : Bool × List (List Nat × List Nat) := (true, [([], []), ([], []), ([0, 1], [0, 1]), ([2], [2]), ([3], [3]), ([3], [3]), ([3], [3]), ([4, 2, 0, 1, 2, 3, 4], [4]), ([5, 7, 0, 1, 2, 3, 4, 5, 7], [5]), ([6, 8, 0, 1, 2, 3, 4, 5, 6, 7, 8], [6])])
def namesB : List Nat := [0, 0, 3, 7, 15, 15, 15, 31, 191, 511]
theorem names_t7 : rtab .any (opsOf Tryd.f6 7) = namesT := by kernel_rfl
theorem names_t8 : rtab .any (opsOf Tryd.f6 8) = namesT := by kernel_rfl
theorem names_bits : waitsOk namesT.2 namesB = true := by kernel_rfl
set_option maxHeartbeats 8000000 in
set_option maxRecDepth 100000 in
theorem featureNames_any (w : World) : Calls Tryd.prog 6 #[] w fun e w' => e = .returned (.bool true) ∧ Below w.heap.size w w' := by
  obtain ⟨F1, L1, hf1, hc1, hx1, hx2⟩ := names_1
  have Q1 := Aside0.mk hf1
  have Q1c := Aside0.mk hc1
  have Q1x := Aside0.mk hx1
  have Q1y := Aside0.mk hx2
  clear hf1 hc1 hx1 hx2
  obtain ⟨F2, L2, hf1, hc1⟩ := names_2
  have Q2 := Aside0.mk hf1
  have Q2c := Aside0.mk hc1
  clear hf1 hc1
  obtain ⟨F3, L3, hf1, hc1⟩ := names_3
  have Q3 := Aside0.mk hf1
  have Q3c := Aside0.mk hc1
  clear hf1 hc1
  obtain ⟨F4, L4, hf1, hc1⟩ := names_4
  have Q4 := Aside0.mk hf1
  have Q4c := Aside0.mk hc1
  clear hf1 hc1
  obtain ⟨F5, L5, hf1, hc1⟩ := names_5
  have Q5 := Aside0.mk hf1
  have Q5c := Aside0.mk hc1
  clear hf1 hc1
  obtain ⟨may, hmay⟩ : ∃ m, m = mayL := ⟨_, rfl⟩
  have lm : may.length = 10 := by rw [hmay]; rfl
  have OM : Aside0 (∀ i : Nat, i < 10 → feature_Check.f [] [(⟨rd may (i : Int), 0, 0⟩ : S53)] = some 0) := ⟨by rw [hmay]; exact may_ok⟩
  have Nm := Aside0.mk (show may = [97, 122, 65, 90, 161, 55295, 57344, 65532, 65534, 1114111] from hmay)
  have LM := Aside0.mk lm
  clear hmay lm
  obtain ⟨bad, hbad⟩ : ∃ m, m = notL := ⟨_, rfl⟩
  have lm : bad.length = 15 := by rw [hbad]; rfl
  have OB : Aside0 (∀ i : Nat, i < 15 → feature_Check.f [] [(⟨rd bad (i : Int), 0, 0⟩ : S53)] = some 7) := ⟨by rw [hbad]; exact not_ok⟩
  have Nb := Aside0.mk (show bad = [0, 32, 48, 95, 64, 91, 96, 123, 160, 127, 55296, 57343, 65533, 1114112, (-1)] from hbad)
  have LB := Aside0.mk lm
  clear hbad lm
  go_enter Tryd.func6, Tryd.ntmps6
  go_wp2_with fail
  refine (alive_any _).mono ?_
  rintro e w1 ⟨rfl, hb⟩
  have HB := Aside0.mk hb
  clear hb
  go_wp2_with fail
  refine (cognatelaw02_full.calls 300 24 128 F1 L1 _ Q1.out).mono ?_
  rintro e w2 ⟨v0, v1, rfl, h0, h1, hb⟩
  obtain ⟨A0, c0, rfl, hc0, hC0⟩ := Kd.R_reads h0
  obtain ⟨A1, c1, rfl, hc1, hC1⟩ := Kd.R_reads h1
  have D0 := Aside0.mk hc0
  have D1 := Aside0.mk hc1
  have K := Aside0.mk (blk_new w2 (.cells #[.slice A0 F1.length c0, .slice A1 L1.length c1] 25))
  have b1 := below_alloc (Below.refl _ w2) (.cells #[.slice A0 F1.length c0, .slice A1 L1.length c1] 25)
  have C0 := Aside0.mk (Kd.C_below hC0 b1)
  have C1 := Aside0.mk (Kd.C_below hC1 b1)
  have n_ := Aside0.mk (below_alloc (below_step HB.out hb) (.cells #[.slice A0 F1.length c0, .slice A1 L1.length c1] 25))
  clear HB
  have HB := n_
  clear n_ b1 hb h0 h1 hc0 hc1 hC0 hC1
  have k0 : (w2.alloc (.cells #[.slice A0 F1.length c0, .slice A1 L1.length c1] 25)).cell? ⟨w2.heap.size, 0, none⟩ = some (.slice A0 F1.length c0) := (blk_cell K.out 0).trans rfl
  have k1 : (w2.alloc (.cells #[.slice A0 F1.length c0, .slice A1 L1.length c1] 25)).cell? ⟨w2.heap.size, 1, none⟩ = some (.slice A1 L1.length c1) := (blk_cell K.out 1).trans rfl
  go_wp2_with fail
  refine (feature_Check.calls A0 c0 F1 A1 c1 L1 0 _ C0.out D0.out C1.out D1.out Q1c.out).mono ?_
  rintro e w3 ⟨rfl, hb⟩
  clear k0 k1
  have n_ := Aside0.mk (Kd.C_below C0.out hb)
  clear C0
  have C0 := n_
  clear n_
  have n_ := Aside0.mk (Kd.C_below C1.out hb)
  clear C1
  have C1 := n_
  clear n_
  have n_ := Aside0.mk (blk_below K.out hb)
  clear K
  have K := n_
  clear n_
  have n_ := Aside0.mk (below_step HB.out hb)
  clear HB
  have HB := n_
  clear n_
  clear hb
  go_wp2_with fail
  refine (cognatelaw02_full.calls 300 25 128 F2 L2 _ Q2.out).mono ?_
  rintro e w4 ⟨v0, v1, rfl, h0, h1, hb⟩
  obtain ⟨X0, y0, rfl, hc0, hC0⟩ := Kd.R_reads h0
  obtain ⟨X1, y1, rfl, hc1, hC1⟩ := Kd.R_reads h1
  have Z0 := Aside0.mk hC0
  have Z1 := Aside0.mk hC1
  have Y0 := Aside0.mk hc0
  have Y1 := Aside0.mk hc1
  clear h0 h1 hc0 hc1 hC0 hC1
  have n_ := Aside0.mk (Kd.C_below C0.out hb)
  clear C0
  have C0 := n_
  clear n_
  have n_ := Aside0.mk (Kd.C_below C1.out hb)
  clear C1
  have C1 := n_
  clear n_
  have n_ := Aside0.mk (blk_below K.out hb)
  clear K
  have K := n_
  clear n_
  have n_ := Aside0.mk (below_step HB.out hb)
  clear HB
  have HB := n_
  clear n_
  clear hb
  go_wp2_with fail
  refine (feature_Check.calls X0 y0 F2 X1 y1 L2 7 _ Z0.out Y0.out Z1.out Y1.out Q2c.out).mono ?_
  rintro e w5 ⟨rfl, hb⟩
  have n_ := Aside0.mk (Kd.C_below C0.out hb)
  clear C0
  have C0 := n_
  clear n_
  have n_ := Aside0.mk (Kd.C_below C1.out hb)
  clear C1
  have C1 := n_
  clear n_
  have n_ := Aside0.mk (blk_below K.out hb)
  clear K
  have K := n_
  clear n_
  have n_ := Aside0.mk (below_step HB.out hb)
  clear HB
  have HB := n_
  clear n_
  clear hb Z0 Z1 Y0 Y1
  go_wp2_with fail
  refine (cognatelaw02_full.calls 300 24 129 F3 L3 _ Q3.out).mono ?_
  rintro e w6 ⟨v0, v1, rfl, h0, h1, hb⟩
  obtain ⟨X0, y0, rfl, hc0, hC0⟩ := Kd.R_reads h0
  obtain ⟨X1, y1, rfl, hc1, hC1⟩ := Kd.R_reads h1
  have Z0 := Aside0.mk hC0
  have Z1 := Aside0.mk hC1
  have Y0 := Aside0.mk hc0
  have Y1 := Aside0.mk hc1
  clear h0 h1 hc0 hc1 hC0 hC1
  have n_ := Aside0.mk (Kd.C_below C0.out hb)
  clear C0
  have C0 := n_
  clear n_
  have n_ := Aside0.mk (Kd.C_below C1.out hb)
  clear C1
  have C1 := n_
  clear n_
  have n_ := Aside0.mk (blk_below K.out hb)
  clear K
  have K := n_
  clear n_
  have n_ := Aside0.mk (below_step HB.out hb)
  clear HB
  have HB := n_
  clear n_
  clear hb
  go_wp2_with fail
  refine (feature_Check.calls X0 y0 F3 X1 y1 L3 7 _ Z0.out Y0.out Z1.out Y1.out Q3c.out).mono ?_
  rintro e w7 ⟨rfl, hb⟩
  have n_ := Aside0.mk (Kd.C_below C0.out hb)
  clear C0
  have C0 := n_
  clear n_
  have n_ := Aside0.mk (Kd.C_below C1.out hb)
  clear C1
  have C1 := n_
  clear n_
  have n_ := Aside0.mk (blk_below K.out hb)
  clear K
  have K := n_
  clear n_
  have n_ := Aside0.mk (below_step HB.out hb)
  clear HB
  have HB := n_
  clear n_
  clear hb Z0 Z1 Y0 Y1
  go_wp2_with fail
  refine (cognatelaw02_full.calls 300 24 0 F4 L4 _ Q4.out).mono ?_
  rintro e w8 ⟨v0, v1, rfl, h0, h1, hb⟩
  obtain ⟨X0, y0, rfl, hc0, hC0⟩ := Kd.R_reads h0
  obtain ⟨X1, y1, rfl, hc1, hC1⟩ := Kd.R_reads h1
  have Z0 := Aside0.mk hC0
  have Z1 := Aside0.mk hC1
  have Y0 := Aside0.mk hc0
  have Y1 := Aside0.mk hc1
  clear h0 h1 hc0 hc1 hC0 hC1
  have n_ := Aside0.mk (Kd.C_below C0.out hb)
  clear C0
  have C0 := n_
  clear n_
  have n_ := Aside0.mk (Kd.C_below C1.out hb)
  clear C1
  have C1 := n_
  clear n_
  have n_ := Aside0.mk (blk_below K.out hb)
  clear K
  have K := n_
  clear n_
  have n_ := Aside0.mk (below_step HB.out hb)
  clear HB
  have HB := n_
  clear n_
  clear hb
  go_wp2_with fail
  refine (feature_Check.calls X0 y0 F4 X1 y1 L4 7 _ Z0.out Y0.out Z1.out Y1.out Q4c.out).mono ?_
  rintro e w9 ⟨rfl, hb⟩
  have n_ := Aside0.mk (Kd.C_below C0.out hb)
  clear C0
  have C0 := n_
  clear n_
  have n_ := Aside0.mk (Kd.C_below C1.out hb)
  clear C1
  have C1 := n_
  clear n_
  have n_ := Aside0.mk (blk_below K.out hb)
  clear K
  have K := n_
  clear n_
  have n_ := Aside0.mk (below_step HB.out hb)
  clear HB
  have HB := n_
  clear n_
  clear hb Z0 Z1 Y0 Y1
  go_wp2_with fail
  refine (cognatelaw02_full.calls 300 0 1 F5 L5 _ Q5.out).mono ?_
  rintro e w10 ⟨v0, v1, rfl, h0, h1, hb⟩
  obtain ⟨X0, y0, rfl, hc0, hC0⟩ := Kd.R_reads h0
  obtain ⟨X1, y1, rfl, hc1, hC1⟩ := Kd.R_reads h1
  have Z0 := Aside0.mk hC0
  have Z1 := Aside0.mk hC1
  have Y0 := Aside0.mk hc0
  have Y1 := Aside0.mk hc1
  clear h0 h1 hc0 hc1 hC0 hC1
  have n_ := Aside0.mk (Kd.C_below C0.out hb)
  clear C0
  have C0 := n_
  clear n_
  have n_ := Aside0.mk (Kd.C_below C1.out hb)
  clear C1
  have C1 := n_
  clear n_
  have n_ := Aside0.mk (blk_below K.out hb)
  clear K
  have K := n_
  clear n_
  have n_ := Aside0.mk (below_step HB.out hb)
  clear HB
  have HB := n_
  clear n_
  clear hb
  go_wp2_with fail
  refine (feature_Check.calls X0 y0 F5 X1 y1 L5 7 _ Z0.out Y0.out Z1.out Y1.out Q5c.out).mono ?_
  rintro e w11 ⟨rfl, hb⟩
  have n_ := Aside0.mk (Kd.C_below C0.out hb)
  clear C0
  have C0 := n_
  clear n_
  have n_ := Aside0.mk (Kd.C_below C1.out hb)
  clear C1
  have C1 := n_
  clear n_
  have n_ := Aside0.mk (blk_below K.out hb)
  clear K
  have K := n_
  clear n_
  have n_ := Aside0.mk (below_step HB.out hb)
  clear HB
  have HB := n_
  clear n_
  clear hb Z0 Z1 Y0 Y1
  try go_wp2
  have n_ := Aside0.mk (below_drew1 (Below.refl w11.heap.size w11))
  have hb := n_.out
  clear n_
  have n_ := Aside0.mk (Kd.C_below C0.out hb)
  clear C0
  have C0 := n_
  clear n_
  have n_ := Aside0.mk (Kd.C_below C1.out hb)
  clear C1
  have C1 := n_
  clear n_
  have n_ := Aside0.mk (blk_below K.out hb)
  clear K
  have K := n_
  clear n_
  have n_ := Aside0.mk (below_step HB.out hb)
  clear HB
  have HB := n_
  clear n_
  clear hb
  refine start_ (n := 10) (S := (fun w' => w'.cell? ⟨w2.heap.size, 0, none⟩ = some (.slice A0 F1.length c0) ∧ w'.cell? ⟨w2.heap.size, 1, none⟩ = some (.slice A1 L1.length c1))) (ds := []) #[false, false, false, false, false, false, false, false, false, false] (by kernel_rfl) rfl rfl ⟨(blk_cell K.out 0).trans rfl, (blk_cell K.out 1).trans rfl⟩ (fun hHeld => ?_)
  refine with_tabW names_t7 names_bits (fun HT_ HW_ => ?_)
  generalize w11.drew = wd7 at C0 C1 K HB hHeld ⊢
  refine take_ (i := 0) (N := some 51) (v := ?_) (a' := ?_) #[true, false, false, false, false, false, false, false, false, false] rfl rfl (take_ofW HT_.out HW_.out (by kernel_rfl)) (fun _ _ _ h => h) (Or.inl ⟨by rfl, ?_⟩) hHeld ?_ ?_
  rotate_left
  · rintro w' ⟨s0, s1⟩
    go_simp
    with_reducible rfl
  rotate_left
  · simp only [Act.put, List.setIfInBounds_toArray, List.set_cons_zero, List.set_cons_succ, i64_w, i32_w]
    rfl
  refine one_ (i := 1) (N := some 52) #[true, true, false, false, false, false, false, false, false, false] rfl rfl (one_of HT_.out (by kernel_rfl)) (by decide) (fun K_ hK => ?_)
  obtain ⟨zs, hzs⟩ : ∃ y_ : List Int, y_ = List.replicate 129 0 := ⟨_, rfl⟩
  refine Kd.R_make_step (Kd.int .i32) _ 21 (by rfl) (N := 52) rfl 37 _ _ rfl 129 rfl rfl Tryd.underlying37 (.int .i32 0) 4 info21 rfl (by decide) (by omega) 0 (ok := fun _ => True) (okp := fun _ => True) rfl (fun _ hk => hk) trivial (by omega) (by omega) (Below.refl _ _) (Nat.le_refl _) ?_
  intro vz wz7 ho hb hg_ hnew_
  clear hg_ hnew_
  (first | rw [← hzs] at ho | (simp only [Int.reduceToNat] at ho; rw [← hzs] at ho))
  have HZ := Aside0.mk ho
  have n_ := Aside0.mk (Kd.C_below C0.out hb)
  clear C0
  have C0 := n_
  clear n_
  have n_ := Aside0.mk (Kd.C_below C1.out hb)
  clear C1
  have C1 := n_
  clear n_
  have n_ := Aside0.mk (blk_below K.out hb)
  clear K
  have K := n_
  clear n_
  have n_ := Aside0.mk (below_step HB.out hb)
  clear HB
  have HB := n_
  clear n_
  clear hb ho
  obtain ⟨Az, cz, ez⟩ := Kd.R_slice HZ.out
  (first | subst ez | (injection ez with f1_ f2_ f3_; have f4_ := f1_.symm; have f5_ := f3_.symm; clear f1_ f2_ f3_; subst f4_; subst f5_))
  refine hK.out _ _ ⟨(blk_cell K.out 0).trans rfl, (blk_cell K.out 1).trans rfl⟩ (fun hHeld => ?_)
  clear hK K_
  refine norm_ (a' := ?_) ?_ ?_
  rotate_left
  · show Act.put _ (some 52) _ = _
    simp only [Act.put, List.setIfInBounds_toArray, List.set_cons_zero, List.set_cons_succ, i64_w, i32_w]
    rfl
  refine one_ (i := 2) (N := some 53) #[true, true, true, false, false, false, false, false, false, false] rfl rfl (one_of HT_.out (by kernel_rfl)) (by decide) (fun K_ hK => ?_)
  refine goes_ Tryd.func28 (by kernel_rfl) rfl #[.agg #[.slice A0 F1.length c0, .slice A1 L1.length c1], .slice Az zs.length cz] (by rfl) rfl rfl (by (try simp only [List.map_toArray, List.map_cons, List.map_nil]); first | done | rfl | (simp only [List.length_drop, List.length_take]; rfl)) ?_
  have hq : feature_Least.f 300 F1 L1 zs = some (0, 0, 4) := by rw [hzs]; exact Q1x.out
  have HQ := Aside0.mk hq
  clear hq hzs
  refine (feature_Least.calls 300 A0 c0 F1 A1 c1 L1 Az cz zs 0 0 4 _ C0.out D0.out C1.out D1.out (Kd.R_reads' HZ.out).2.2 (Kd.R_reads' HZ.out).2.1 HQ.out).mono ?_
  rintro e wl7 ⟨rfl, hb⟩
  refine ⟨_, rfl, ?_⟩
  have n_ := Aside0.mk (Kd.C_below C0.out hb)
  clear C0
  have C0 := n_
  clear n_
  have n_ := Aside0.mk (Kd.C_below C1.out hb)
  clear C1
  have C1 := n_
  clear n_
  have n_ := Aside0.mk (blk_below K.out hb)
  clear K
  have K := n_
  clear n_
  have n_ := Aside0.mk (below_step HB.out hb)
  clear HB
  have HB := n_
  clear n_
  clear hb HZ HQ
  refine hK.out _ _ ⟨(blk_cell K.out 0).trans rfl, (blk_cell K.out 1).trans rfl⟩ (fun hHeld => ?_)
  clear hK K_
  refine norm_ (a' := ?_) ?_ ?_
  rotate_left
  · show Act.put _ (some 53) _ = _
    simp only [Act.put, List.setIfInBounds_toArray, List.set_cons_zero, List.set_cons_succ, i64_w, i32_w]
    rfl
  refine pure_ (i := 3) (N := some 50) (v := ?_) (a' := ?_) #[true, true, true, true, false, false, false, false, false, false] rfl rfl (any_of HT_.out (by kernel_rfl)) (fun _ _ _ h => h) (Or.inl ⟨by rfl, ?_⟩) ?_ ?_
  rotate_left
  · intro w'
    go_simp
    with_reducible rfl
  rotate_left
  · simp only [Act.put, List.setIfInBounds_toArray, List.set_cons_zero, List.set_cons_succ, i64_w, i32_w]
    rfl
  refine pure_ (i := 4) (N := some 54) (v := ?_) (a' := ?_) #[true, true, true, true, true, false, false, false, false, false] rfl rfl (any_of HT_.out (by kernel_rfl)) (fun _ _ _ h => h) (Or.inl ⟨by rfl, ?_⟩) ?_ ?_
  rotate_left
  · intro w'
    go_simp
    with_reducible rfl
  rotate_left
  · simp only [Act.put, List.setIfInBounds_toArray, List.set_cons_zero, List.set_cons_succ, i64_w, i32_w]
    rfl
  refine pure_ (i := 5) (N := some 55) (v := ?_) (a' := ?_) #[true, true, true, true, true, true, false, false, false, false] rfl rfl (any_of HT_.out (by kernel_rfl)) (fun _ _ _ h => h) (Or.inl ⟨by rfl, ?_⟩) ?_ ?_
  rotate_left
  · intro w'
    go_simp
    with_reducible rfl
  rotate_left
  · simp only [Act.put, List.setIfInBounds_toArray, List.set_cons_zero, List.set_cons_succ, i64_w, i32_w]
    rfl
  refine pure_ (i := 6) (N := some 56) (v := ?_) (a' := ?_) #[true, true, true, true, true, true, true, false, false, false] rfl rfl (any_of HT_.out (by kernel_rfl)) (fun _ _ _ h => h) (Or.inl ⟨by rfl, ?_⟩) ?_ ?_
  rotate_left
  · intro w'
    go_simp
    with_reducible rfl
  rotate_left
  · simp only [Act.put, List.setIfInBounds_toArray, List.set_cons_zero, List.set_cons_succ, i64_w, i32_w]
    rfl
  refine pure_ (i := 7) (N := some 3) (v := ?_) (a' := ?_) #[true, true, true, true, true, true, true, true, false, false] rfl rfl (any_of HT_.out (by kernel_rfl)) (fun _ _ _ h => h) (Or.inl ⟨by rfl, ?_⟩) ?_ ?_
  rotate_left
  · intro w'
    go_simp
    with_reducible rfl
  rotate_left
  · simp only [Act.put, List.setIfInBounds_toArray, List.set_cons_zero, List.set_cons_succ, i64_w, i32_w]
    rfl
  refine pure_ (i := 8) (N := some 4) (v := ?_) (a' := ?_) #[true, true, true, true, true, true, true, true, true, false] rfl rfl (any_of HT_.out (by kernel_rfl)) (fun _ _ _ h => h) (Or.inl ⟨by rfl, ?_⟩) ?_ ?_
  rotate_left
  · intro w'
    go_simp
    with_reducible rfl
  rotate_left
  · simp only [Act.put, List.setIfInBounds_toArray, List.set_cons_zero, List.set_cons_succ, i64_w, i32_w]
    rfl
  refine pure_ (i := 9) (N := some 5) (v := ?_) (a' := ?_) #[true, true, true, true, true, true, true, true, true, true] rfl rfl (any_of HT_.out (by kernel_rfl)) (fun _ _ _ h => h) (Or.inl ⟨by rfl, ?_⟩) ?_ ?_
  rotate_left
  · intro w'
    go_simp
    with_reducible rfl
  rotate_left
  · simp only [Act.put, List.setIfInBounds_toArray, List.set_cons_zero, List.set_cons_succ, i64_w, i32_w]
    rfl
  refine done_ (done_of HT_.out (by kernel_rfl)) ?_
  try go_wp2
  have n_ := Aside0.mk (below_drew1 (Below.refl wl7.heap.size wl7))
  have hb := n_.out
  clear n_
  have n_ := Aside0.mk (Kd.C_below C0.out hb)
  clear C0
  have C0 := n_
  clear n_
  have n_ := Aside0.mk (Kd.C_below C1.out hb)
  clear C1
  have C1 := n_
  clear n_
  have n_ := Aside0.mk (blk_below K.out hb)
  clear K
  have K := n_
  clear n_
  have n_ := Aside0.mk (below_step HB.out hb)
  clear HB
  have HB := n_
  clear n_
  clear hb
  refine start_ (n := 10) (S := (fun w' => w'.cell? ⟨w2.heap.size, 0, none⟩ = some (.slice A0 F1.length c0) ∧ w'.cell? ⟨w2.heap.size, 1, none⟩ = some (.slice A1 L1.length c1))) (ds := []) #[false, false, false, false, false, false, false, false, false, false] (by kernel_rfl) rfl rfl ⟨(blk_cell K.out 0).trans rfl, (blk_cell K.out 1).trans rfl⟩ (fun hHeld => ?_)
  refine with_tabW names_t8 names_bits (fun HT_ HW_ => ?_)
  generalize wl7.drew = wd8 at C0 C1 K HB hHeld ⊢
  refine take_ (i := 0) (N := some 58) (v := ?_) (a' := ?_) #[true, false, false, false, false, false, false, false, false, false] rfl rfl (take_ofW HT_.out HW_.out (by kernel_rfl)) (fun _ _ _ h => h) (Or.inl ⟨by rfl, ?_⟩) hHeld ?_ ?_
  rotate_left
  · rintro w' ⟨s0, s1⟩
    go_simp
    with_reducible rfl
  rotate_left
  · simp only [Act.put, List.setIfInBounds_toArray, List.set_cons_zero, List.set_cons_succ, i64_w, i32_w]
    rfl
  refine one_ (i := 1) (N := some 59) #[true, true, false, false, false, false, false, false, false, false] rfl rfl (one_of HT_.out (by kernel_rfl)) (by decide) (fun K_ hK => ?_)
  obtain ⟨zs, hzs⟩ : ∃ y_ : List Int, y_ = List.replicate 128 0 := ⟨_, rfl⟩
  refine Kd.R_make_step (Kd.int .i32) _ 21 (by rfl) (N := 59) rfl 37 _ _ rfl 128 rfl rfl Tryd.underlying37 (.int .i32 0) 4 info21 rfl (by decide) (by omega) 0 (ok := fun _ => True) (okp := fun _ => True) rfl (fun _ hk => hk) trivial (by omega) (by omega) (Below.refl _ _) (Nat.le_refl _) ?_
  intro vz wz8 ho hb hg_ hnew_
  clear hg_ hnew_
  (first | rw [← hzs] at ho | (simp only [Int.reduceToNat] at ho; rw [← hzs] at ho))
  have HZ := Aside0.mk ho
  have n_ := Aside0.mk (Kd.C_below C0.out hb)
  clear C0
  have C0 := n_
  clear n_
  have n_ := Aside0.mk (Kd.C_below C1.out hb)
  clear C1
  have C1 := n_
  clear n_
  have n_ := Aside0.mk (blk_below K.out hb)
  clear K
  have K := n_
  clear n_
  have n_ := Aside0.mk (below_step HB.out hb)
  clear HB
  have HB := n_
  clear n_
  clear hb ho
  obtain ⟨Az, cz, ez⟩ := Kd.R_slice HZ.out
  (first | subst ez | (injection ez with f1_ f2_ f3_; have f4_ := f1_.symm; have f5_ := f3_.symm; clear f1_ f2_ f3_; subst f4_; subst f5_))
  refine hK.out _ _ ⟨(blk_cell K.out 0).trans rfl, (blk_cell K.out 1).trans rfl⟩ (fun hHeld => ?_)
  clear hK K_
  refine norm_ (a' := ?_) ?_ ?_
  rotate_left
  · show Act.put _ (some 59) _ = _
    simp only [Act.put, List.setIfInBounds_toArray, List.set_cons_zero, List.set_cons_succ, i64_w, i32_w]
    rfl
  refine one_ (i := 2) (N := some 60) #[true, true, true, false, false, false, false, false, false, false] rfl rfl (one_of HT_.out (by kernel_rfl)) (by decide) (fun K_ hK => ?_)
  refine goes_ Tryd.func28 (by kernel_rfl) rfl #[.agg #[.slice A0 F1.length c0, .slice A1 L1.length c1], .slice Az zs.length cz] (by rfl) rfl rfl (by (try simp only [List.map_toArray, List.map_cons, List.map_nil]); first | done | rfl | (simp only [List.length_drop, List.length_take]; rfl)) ?_
  have hq : feature_Least.f 300 F1 L1 zs = some (0, 0, 5) := by rw [hzs]; exact Q1y.out
  have HQ := Aside0.mk hq
  clear hq hzs
  refine (feature_Least.calls 300 A0 c0 F1 A1 c1 L1 Az cz zs 0 0 5 _ C0.out D0.out C1.out D1.out (Kd.R_reads' HZ.out).2.2 (Kd.R_reads' HZ.out).2.1 HQ.out).mono ?_
  rintro e wl8 ⟨rfl, hb⟩
  refine ⟨_, rfl, ?_⟩
  have n_ := Aside0.mk (Kd.C_below C0.out hb)
  clear C0
  have C0 := n_
  clear n_
  have n_ := Aside0.mk (Kd.C_below C1.out hb)
  clear C1
  have C1 := n_
  clear n_
  have n_ := Aside0.mk (blk_below K.out hb)
  clear K
  have K := n_
  clear n_
  have n_ := Aside0.mk (below_step HB.out hb)
  clear HB
  have HB := n_
  clear n_
  clear hb HZ HQ
  refine hK.out _ _ ⟨(blk_cell K.out 0).trans rfl, (blk_cell K.out 1).trans rfl⟩ (fun hHeld => ?_)
  clear hK K_
  refine norm_ (a' := ?_) ?_ ?_
  rotate_left
  · show Act.put _ (some 60) _ = _
    simp only [Act.put, List.setIfInBounds_toArray, List.set_cons_zero, List.set_cons_succ, i64_w, i32_w]
    rfl
  refine pure_ (i := 3) (N := some 57) (v := ?_) (a' := ?_) #[true, true, true, true, false, false, false, false, false, false] rfl rfl (any_of HT_.out (by kernel_rfl)) (fun _ _ _ h => h) (Or.inl ⟨by rfl, ?_⟩) ?_ ?_
  rotate_left
  · intro w'
    go_simp
    with_reducible rfl
  rotate_left
  · simp only [Act.put, List.setIfInBounds_toArray, List.set_cons_zero, List.set_cons_succ, i64_w, i32_w]
    rfl
  refine pure_ (i := 4) (N := some 61) (v := ?_) (a' := ?_) #[true, true, true, true, true, false, false, false, false, false] rfl rfl (any_of HT_.out (by kernel_rfl)) (fun _ _ _ h => h) (Or.inl ⟨by rfl, ?_⟩) ?_ ?_
  rotate_left
  · intro w'
    go_simp
    with_reducible rfl
  rotate_left
  · simp only [Act.put, List.setIfInBounds_toArray, List.set_cons_zero, List.set_cons_succ, i64_w, i32_w]
    rfl
  refine pure_ (i := 5) (N := some 62) (v := ?_) (a' := ?_) #[true, true, true, true, true, true, false, false, false, false] rfl rfl (any_of HT_.out (by kernel_rfl)) (fun _ _ _ h => h) (Or.inl ⟨by rfl, ?_⟩) ?_ ?_
  rotate_left
  · intro w'
    go_simp
    with_reducible rfl
  rotate_left
  · simp only [Act.put, List.setIfInBounds_toArray, List.set_cons_zero, List.set_cons_succ, i64_w, i32_w]
    rfl
  refine pure_ (i := 6) (N := some 63) (v := ?_) (a' := ?_) #[true, true, true, true, true, true, true, false, false, false] rfl rfl (any_of HT_.out (by kernel_rfl)) (fun _ _ _ h => h) (Or.inl ⟨by rfl, ?_⟩) ?_ ?_
  rotate_left
  · intro w'
    go_simp
    with_reducible rfl
  rotate_left
  · simp only [Act.put, List.setIfInBounds_toArray, List.set_cons_zero, List.set_cons_succ, i64_w, i32_w]
    rfl
  refine pure_ (i := 7) (N := some 6) (v := ?_) (a' := ?_) #[true, true, true, true, true, true, true, true, false, false] rfl rfl (any_of HT_.out (by kernel_rfl)) (fun _ _ _ h => h) (Or.inl ⟨by rfl, ?_⟩) ?_ ?_
  rotate_left
  · intro w'
    go_simp
    with_reducible rfl
  rotate_left
  · simp only [Act.put, List.setIfInBounds_toArray, List.set_cons_zero, List.set_cons_succ, i64_w, i32_w]
    rfl
  refine pure_ (i := 8) (N := some 7) (v := ?_) (a' := ?_) #[true, true, true, true, true, true, true, true, true, false] rfl rfl (any_of HT_.out (by kernel_rfl)) (fun _ _ _ h => h) (Or.inl ⟨by rfl, ?_⟩) ?_ ?_
  rotate_left
  · intro w'
    go_simp
    with_reducible rfl
  rotate_left
  · simp only [Act.put, List.setIfInBounds_toArray, List.set_cons_zero, List.set_cons_succ, i64_w, i32_w]
    rfl
  refine pure_ (i := 9) (N := some 8) (v := ?_) (a' := ?_) #[true, true, true, true, true, true, true, true, true, true] rfl rfl (any_of HT_.out (by kernel_rfl)) (fun _ _ _ h => h) (Or.inl ⟨by rfl, ?_⟩) ?_ ?_
  rotate_left
  · intro w'
    go_simp
    with_reducible rfl
  rotate_left
  · simp only [Act.put, List.setIfInBounds_toArray, List.set_cons_zero, List.set_cons_succ, i64_w, i32_w]
    rfl
  refine done_ (done_of HT_.out (by kernel_rfl)) ?_
  clear C0 C1 K D0 D1 Q1x Q1y
  go_wp2_with (first | ((with_reducible refine gate_dst (N := 64) rfl ?_); refine Kd.R_lit (Kd.int .i32) _ 21 ?hg (N := 64) ?hd (xs := ([97, 122, 65, 90, 161, 55295, 57344, 65532, 65534, 1114111] : List Int)) (inner := [.int .i32 97, .int .i32 122, .int .i32 65, .int .i32 90, .int .i32 161, .int .i32 55295, .int .i32 57344, .int .i32 65532, .int .i32 65534, .int .i32 1114111]) (ok := fun _ => True) (okp := fun _ => True) ?hr ?hp (fun _ hk => hk) trivial (Below.refl _ _) (Nat.le_refl _) (by simp) ?_; (case hd => rfl); (case hg => rfl); (case hr => first | (go_simp; done) | (go_simp; rfl)); (case hp => exact (Reps.one (show Kd.M (Kd.int .i32) _ _ _ 97 [.int .i32 97] from rfl) (Reps.one (show Kd.M (Kd.int .i32) _ _ _ 122 [.int .i32 122] from rfl) (Reps.one (show Kd.M (Kd.int .i32) _ _ _ 65 [.int .i32 65] from rfl) (Reps.one (show Kd.M (Kd.int .i32) _ _ _ 90 [.int .i32 90] from rfl) (Reps.one (show Kd.M (Kd.int .i32) _ _ _ 161 [.int .i32 161] from rfl) (Reps.one (show Kd.M (Kd.int .i32) _ _ _ 55295 [.int .i32 55295] from rfl) (Reps.one (show Kd.M (Kd.int .i32) _ _ _ 57344 [.int .i32 57344] from rfl) (Reps.one (show Kd.M (Kd.int .i32) _ _ _ 65532 [.int .i32 65532] from rfl) (Reps.one (show Kd.M (Kd.int .i32) _ _ _ 65534 [.int .i32 65534] from rfl) (Reps.one (show Kd.M (Kd.int .i32) _ _ _ 1114111 [.int .i32 1114111] from rfl) (Reps.none _ _)))))))))))); intro vm wm ho hb hg_ hnew_; clear hg_ hnew_; rw [← Nm.out] at ho; obtain ⟨AM, cM, ez, Mc, MC⟩ := Kd.R_reads ho; (first | subst ez | (injection ez with f1_ f2_ f3_; have f4_ := f1_.symm; have f5_ := f3_.symm; clear f1_ f2_ f3_; subst f4_; subst f5_)); have M := Aside0.mk MC; have Md := Aside0.mk Mc; have n_ := Aside0.mk (below_step HB.out hb); clear HB; have HB := n_; clear n_; clear ho hb MC Mc) | ((with_reducible refine gate_dst (N := 65) rfl ?_); refine Kd.R_lit (Kd.int .i32) _ 21 ?hg (N := 65) ?hd (xs := ([0, 32, 48, 95, 64, 91, 96, 123, 160, 127, 55296, 57343, 65533, 1114112, (-1)] : List Int)) (inner := [.int .i32 0, .int .i32 32, .int .i32 48, .int .i32 95, .int .i32 64, .int .i32 91, .int .i32 96, .int .i32 123, .int .i32 160, .int .i32 127, .int .i32 55296, .int .i32 57343, .int .i32 65533, .int .i32 1114112, .int .i32 (-1)]) (ok := fun _ => True) (okp := fun _ => True) ?hr ?hp (fun _ hk => hk) trivial (Below.refl _ _) (Nat.le_refl _) (by simp) ?_; (case hd => rfl); (case hg => rfl); (case hr => first | (go_simp; done) | (go_simp; rfl)); (case hp => exact (Reps.one (show Kd.M (Kd.int .i32) _ _ _ 0 [.int .i32 0] from rfl) (Reps.one (show Kd.M (Kd.int .i32) _ _ _ 32 [.int .i32 32] from rfl) (Reps.one (show Kd.M (Kd.int .i32) _ _ _ 48 [.int .i32 48] from rfl) (Reps.one (show Kd.M (Kd.int .i32) _ _ _ 95 [.int .i32 95] from rfl) (Reps.one (show Kd.M (Kd.int .i32) _ _ _ 64 [.int .i32 64] from rfl) (Reps.one (show Kd.M (Kd.int .i32) _ _ _ 91 [.int .i32 91] from rfl) (Reps.one (show Kd.M (Kd.int .i32) _ _ _ 96 [.int .i32 96] from rfl) (Reps.one (show Kd.M (Kd.int .i32) _ _ _ 123 [.int .i32 123] from rfl) (Reps.one (show Kd.M (Kd.int .i32) _ _ _ 160 [.int .i32 160] from rfl) (Reps.one (show Kd.M (Kd.int .i32) _ _ _ 127 [.int .i32 127] from rfl) (Reps.one (show Kd.M (Kd.int .i32) _ _ _ 55296 [.int .i32 55296] from rfl) (Reps.one (show Kd.M (Kd.int .i32) _ _ _ 57343 [.int .i32 57343] from rfl) (Reps.one (show Kd.M (Kd.int .i32) _ _ _ 65533 [.int .i32 65533] from rfl) (Reps.one (show Kd.M (Kd.int .i32) _ _ _ 1114112 [.int .i32 1114112] from rfl) (Reps.one (show Kd.M (Kd.int .i32) _ _ _ (-1) [.int .i32 (-1)] from rfl) (Reps.none _ _))))))))))))))))); intro vn wn ho hb hg_ hnew_; clear hg_ hnew_; rw [← Nb.out] at ho; obtain ⟨AG, cG, ez, Gc, GC⟩ := Kd.R_reads ho; (first | subst ez | (injection ez with f1_ f2_ f3_; have f4_ := f1_.symm; have f5_ := f3_.symm; clear f1_ f2_ f3_; subst f4_; subst f5_)); have G := Aside0.mk GC; have Gd := Aside0.mk Gc; have n_ := Aside0.mk (Kd.C_below M.out hb); clear M; have M := n_; clear n_; have n_ := Aside0.mk (below_step HB.out hb); clear HB; have HB := n_; clear n_; clear ho hb GC Gc))
  clear Nm Nb Md Gd
  go_loopw [11] (fun v w' => ∃ i : Nat, i ≤ 10 ∧ v = .int .i64 i ∧ Aside0 (Kd.C (Kd.int .i32) w' AM may.length may) ∧ Aside0 (Kd.C (Kd.int .i32) w' AG bad.length bad) ∧ Aside0 (Below w.heap.size w w')) (fun v _ => 10 - (intOf v).toNat)
  case atStart => exact ⟨0, by omega, rfl, M, G, HB⟩
  case round =>
    clear HB M G
    obtain ⟨i, hi, rfl, M, G, HB⟩ := hrel
    rcases Nat.lt_or_ge i 10 with hlt | hge
    · have p0 : 0 ≤ (i : Int) := by omega
      have q0 : (i : Int) < (may.length : Int) := by rw [LM.out]; omega
      have i0 : decide ((i : Int) < (may.length : Int)) = true := decide_eq_true q0
      obtain ⟨ad, ea, hx⟩ := Kd.at_int M.out (i : Int) p0 q0
      cases ea
      rw [Int.toNat_natCast] at hx
      have hv := OM.out i hlt
      obtain ⟨y, hy⟩ : ∃ y_ : List S53, y_ = [(⟨rd may (i : Int), 0, 0⟩ : S53)] := ⟨_, rfl⟩
      rw [← hy] at hv
      have HV := Aside0.mk hv
      have Ny := Aside0.mk hy
      clear hv hy
      replace p0 := eq_true p0
      replace q0 := eq_true q0
      go_wp2_with ((with_reducible refine gate_dst (N := 77) rfl ?_); refine Kd.R_lit k53 _ 53 ?hg (N := 77) ?hd (xs := ([(⟨rd may (i : Int), 0, 0⟩ : S53)] : List S53)) (inner := [.int .i32 (rd may (i : Int)), .int .u32 0, .int .u32 0]) (ok := fun _ => True) (okp := fun _ => True) ?hr ?hp (fun _ hk => hk) trivial (Below.refl _ _) (Nat.le_refl _) (by simp) ?_; (case hd => rfl); (case hg => rfl); (case hr => first | (go_simp; done) | (go_simp; rfl)); (case hp => exact (Reps.c3 (show Kd.M k53 _ _ _ (⟨rd may (i : Int), 0, 0⟩ : S53) [.int .i32 (rd may (i : Int)), .int .u32 0, .int .u32 0] from (k53_mkM _ _ _ (⟨rd may (i : Int), 0, 0⟩ : S53))) (Reps.none _ _))); intro vy wy ho hb hg_ hnew_; clear hg_ hnew_; rw [← Ny.out] at ho; obtain ⟨AE, cE, ez, Ec, EC⟩ := Kd.R_reads ho; (first | subst ez | (injection ez with f1_ f2_ f3_; have f4_ := f1_.symm; have f5_ := f3_.symm; clear f1_ f2_ f3_; subst f4_; subst f5_)); have E := Aside0.mk EC; have Ed := Aside0.mk Ec; have n_ := Aside0.mk (Kd.C_below M.out hb); clear M; have M := n_; clear n_; have n_ := Aside0.mk (Kd.C_below G.out hb); clear G; have G := n_; clear n_; have n_ := Aside0.mk (below_step HB.out hb); clear HB; have HB := n_; clear n_; clear ho hb EC Ec)
      refine (feature_Check.calls none 0 [] AE cE y 0 _ (C_none _ _) (Nat.le_refl _) E.out Ed.out HV.out).mono ?_
      rintro e wz ⟨rfl, hb⟩
      have n_ := Aside0.mk (Kd.C_below M.out hb)
      clear M
      have M := n_
      clear n_
      have n_ := Aside0.mk (Kd.C_below G.out hb)
      clear G
      have G := n_
      clear n_
      have n_ := Aside0.mk (below_step HB.out hb)
      clear HB
      have HB := n_
      clear n_
      clear hb
      go_wp2
      go_roundw
      case rel => exact ⟨i + 1, by omega, by go_num, M, G, HB⟩
      case measure => simp [intOf]; omega
    · have i0 : decide ((i : Int) < (may.length : Int)) = false := decide_eq_false (by rw [LM.out]; omega)
      have i1 : ((i : Int) < (may.length : Int)) = False := eq_false (by rw [LM.out]; omega)
      have i2 : (i < may.length) = False := eq_false (by rw [LM.out]; omega)
      have i3 : decide (i < may.length) = false := decide_eq_false (by rw [LM.out]; omega)
      clear hi hge
      obtain ⟨wo1, hwo⟩ : ∃ wo : World, wo = wr := ⟨_, rfl⟩
      subst hwo
      clear M LM OM
      go_wp2
      go_loopw [12] (fun v w' => ∃ i : Nat, i ≤ 15 ∧ v = .int .i64 i ∧ Aside0 (Kd.C (Kd.int .i32) w' AG bad.length bad) ∧ Aside0 (Below w.heap.size w w')) (fun v _ => 15 - (intOf v).toNat)
      case atStart => exact ⟨0, by omega, rfl, G, HB⟩
      case round =>
        clear HB G
        obtain ⟨i, hi, rfl, G, HB⟩ := hrel
        rcases Nat.lt_or_ge i 15 with hlt | hge
        · have p0 : 0 ≤ (i : Int) := by omega
          have q0 : (i : Int) < (bad.length : Int) := by rw [LB.out]; omega
          have i0 : decide ((i : Int) < (bad.length : Int)) = true := decide_eq_true q0
          obtain ⟨ad, ea, hx⟩ := Kd.at_int G.out (i : Int) p0 q0
          cases ea
          rw [Int.toNat_natCast] at hx
          have hv := OB.out i hlt
          obtain ⟨y, hy⟩ : ∃ y_ : List S53, y_ = [(⟨rd bad (i : Int), 0, 0⟩ : S53)] := ⟨_, rfl⟩
          rw [← hy] at hv
          have HV := Aside0.mk hv
          have Ny := Aside0.mk hy
          clear hv hy
          replace p0 := eq_true p0
          replace q0 := eq_true q0
          go_wp2_with ((with_reducible refine gate_dst (N := 92) rfl ?_); refine Kd.R_lit k53 _ 53 ?hg (N := 92) ?hd (xs := ([(⟨rd bad (i : Int), 0, 0⟩ : S53)] : List S53)) (inner := [.int .i32 (rd bad (i : Int)), .int .u32 0, .int .u32 0]) (ok := fun _ => True) (okp := fun _ => True) ?hr ?hp (fun _ hk => hk) trivial (Below.refl _ _) (Nat.le_refl _) (by simp) ?_; (case hd => rfl); (case hg => rfl); (case hr => first | (go_simp; done) | (go_simp; rfl)); (case hp => exact (Reps.c3 (show Kd.M k53 _ _ _ (⟨rd bad (i : Int), 0, 0⟩ : S53) [.int .i32 (rd bad (i : Int)), .int .u32 0, .int .u32 0] from (k53_mkM _ _ _ (⟨rd bad (i : Int), 0, 0⟩ : S53))) (Reps.none _ _))); intro vy wy ho hb hg_ hnew_; clear hg_ hnew_; rw [← Ny.out] at ho; obtain ⟨AE, cE, ez, Ec, EC⟩ := Kd.R_reads ho; (first | subst ez | (injection ez with f1_ f2_ f3_; have f4_ := f1_.symm; have f5_ := f3_.symm; clear f1_ f2_ f3_; subst f4_; subst f5_)); have E := Aside0.mk EC; have Ed := Aside0.mk Ec; have n_ := Aside0.mk (Kd.C_below G.out hb); clear G; have G := n_; clear n_; have n_ := Aside0.mk (below_step HB.out hb); clear HB; have HB := n_; clear n_; clear ho hb EC Ec)
          refine (feature_Check.calls none 0 [] AE cE y 7 _ (C_none _ _) (Nat.le_refl _) E.out Ed.out HV.out).mono ?_
          rintro e wz ⟨rfl, hb⟩
          have n_ := Aside0.mk (Kd.C_below G.out hb)
          clear G
          have G := n_
          clear n_
          have n_ := Aside0.mk (below_step HB.out hb)
          clear HB
          have HB := n_
          clear n_
          clear hb
          go_wp2
          go_roundw
          case rel => exact ⟨i + 1, by omega, by go_num, G, HB⟩
          case measure => simp [intOf]; omega
        · have i0 : decide ((i : Int) < (bad.length : Int)) = false := decide_eq_false (by rw [LB.out]; omega)
          have i1 : ((i : Int) < (bad.length : Int)) = False := eq_false (by rw [LB.out]; omega)
          have i2 : (i < bad.length) = False := eq_false (by rw [LB.out]; omega)
          have i3 : decide (i < bad.length) = false := decide_eq_false (by rw [LB.out]; omega)
          clear hi hge
          obtain ⟨wo2, hwo⟩ : ∃ wo : World, wo = wr := ⟨_, rfl⟩
          subst hwo
          clear G LB OB
          obtain ⟨zs, hzs⟩ : ∃ y_ : List Int, y_ = List.replicate 33 0 := ⟨_, rfl⟩
          have Nz := Aside0.mk hzs
          clear hzs
          go_wp2_with ((with_reducible refine gate_dst (N := 96) rfl ?_); refine Kd.R_make (Kd.int .u8) _ 5 rfl (N := 96) rfl 54 _ _ rfl 33 rfl rfl Tryd.underlying54 (.int .u8 0) 1 info5 rfl (by decide) (by omega) 0 (ok := fun _ => True) (okp := fun _ => True) rfl (fun _ hk => hk) trivial (by omega) (by omega) (Below.refl _ _) (Nat.le_refl _) ?_; intro vL wL ho hb hg_ hnew_; clear hg_ hnew_; (first | rw [← Nz.out] at ho | (simp only [Int.reduceToNat] at ho; rw [← Nz.out] at ho)); have HO := Aside0.mk (Kd.R_lower ho (below_size HB.out)); have n_ := Aside0.mk (below_step HB.out hb); clear HB; have HB := n_; clear n_ hb ho)
          go_loopw [14] (fun v w' => ∃ (x : Int) (xs : List Int), v = .int .i64 x ∧ Aside0 (0 ≤ x) ∧ Aside0 (x ≤ 33) ∧ Aside0 (xs = List.replicate x.toNat 120 ++ List.replicate (33 - x.toNat) 0) ∧ Aside0 (Kd.R (Kd.int .u8) 5 w' w.heap.size (fun _ => True) vL xs) ∧ Aside0 (Below w.heap.size w w')) (fun v _ => 33 - (intOf v).toNat)
          case atStart => exact ⟨0, zs, rfl, ⟨by decide⟩, ⟨by decide⟩, ⟨Nz.out⟩, HO, HB⟩
          case round =>
            clear HB HO Nz
            obtain ⟨x, xs, rfl, X0, X1, HX, HO, HB⟩ := hrel
            have lx : xs.length = 33 := by
              have := X0.out
              have := X1.out
              rw [HX.out, List.length_append, List.length_replicate, List.length_replicate]
              omega
            have LX := Aside0.mk lx
            clear lx
            by_cases hc : x < 33
            · have p0 : 0 ≤ x := X0.out
              have q0 : x < (xs.length : Int) := by rw [LX.out]; exact hc
              have i0 : decide (x < (xs.length : Int)) = true := decide_eq_true q0
              have i1 : decide (0 ≤ x) = true := decide_eq_true p0
              have hw : wrap64 (x + 1) = x + 1 := w64 (by omega)
              have HW := Aside0.mk hw
              have X2 := Aside0.mk hc
              clear hw hc
              obtain ⟨AL, cL, eo⟩ := Kd.R_slice HO.out
              subst eo
              obtain ⟨go, co, eo, gb, gl, cl, HG⟩ := Kd.R_form HO.out (by omega)
              (first | cases eo | (injection eo with ea_ en_ ec_; (first | subst ea_ | (injection ea_ with ea_; subst ea_)); subst ec_; clear en_))
              have GB := Aside0.mk gb
              have GG := Aside0.mk HG
              clear gb gl HG
              obtain ⟨hx_0, hf_0⟩ := Kd.R_celln 0 HO.out x p0 q0
              replace p0 := eq_true p0
              replace q0 := eq_true q0
              have HP := Kd.R_putg HO.out x 120
              obtain ⟨ys, hys⟩ : ∃ y_, y_ = xs.set x.toNat 120 := ⟨_, rfl⟩
              have Ny := Aside0.mk hys
              clear hys
              go_wp2
              go_roundw
              case rel =>
                refine ⟨wrap64 (x + 1), ys, (by first | rfl | (simp; done) | (simp [*]; done)), ⟨?_⟩, ⟨?_⟩, ⟨?_⟩, ⟨by rw [Ny.out]; exact HP.1⟩, ⟨below_set HB.out GB.out⟩⟩
                · rw [HW.out]; have := X0.out; omega
                · rw [HW.out]; have := X2.out; omega
                · have z0 := X0.out
                  have z2 := X2.out
                  rw [Ny.out, HX.out, HW.out, long_succ x.toNat (by omega), show (x + 1).toNat = x.toNat + 1 by omega]
              case measure =>
                have z0 := X0.out
                have z2 := X2.out
                simp only [intOf]
                rw [HW.out]
                omega
            · have z1 := X1.out
              obtain rfl : x = 33 := by omega
              have hl : xs = longL := by rw [HX.out]; rfl
              have HL := Aside0.mk hl
              have i0 : decide ((33 : Int) < (xs.length : Int)) = false := decide_eq_false (by rw [LX.out]; decide)
              clear hl hc z1 X0 X1 HX
              obtain ⟨wo3, hwo⟩ : ∃ wo : World, wo = wr := ⟨_, rfl⟩
              subst hwo
              obtain ⟨one, hone⟩ : ∃ y_ : List S53, y_ = [(⟨97, 0, 0⟩ : S53)] := ⟨_, rfl⟩
              have N1 := Aside0.mk hone
              clear hone
              obtain ⟨cut, hcu⟩ : ∃ y_ : List Int, y_ = xs.take 32 := ⟨_, rfl⟩
              have Nc := Aside0.mk hcu
              clear hcu
              obtain ⟨two, htwo⟩ : ∃ y_ : List ByteArray, y_ = [strOfNums cut, (⟨#[121]⟩ : ByteArray)] := ⟨_, rfl⟩
              have N2 := Aside0.mk htwo
              clear htwo
              have HV : Aside0 (feature_Check.f two one = some 0) := ⟨by rw [N2.out, N1.out, Nc.out, HL.out]; exact two_ok⟩
              obtain ⟨nms, hnms⟩ : ∃ y_ : List ByteArray, y_ = [strOfNums xs, (⟨#[]⟩ : ByteArray), (⟨#[65]⟩ : ByteArray), (⟨#[97, 49]⟩ : ByteArray), (⟨#[195, 169]⟩ : ByteArray), (⟨#[97, 32, 98]⟩ : ByteArray)] := ⟨_, rfl⟩
              have Nn := Aside0.mk hnms
              clear hnms
              have HN : Aside0 (nms = nameL) := ⟨by rw [Nn.out, HL.out]; rfl⟩
              obtain ⟨AL, cL, eo⟩ := Kd.R_slice HO.out
              subst eo
              have CL := Aside0.mk (Kd.R_reads' HO.out).2.2
              have hroom := (Kd.R_reads' HO.out).2.1
              have q : (32 : Int) ≤ (xs.length : Int) := by rw [LX.out]; decide
              obtain ⟨i9, hi9, _, hsz, _⟩ := info_parts info5
              have hcut := cut_to (P := Tryd.prog) 54 5 .i64 Tryd.underlying54 hi9 AL xs.length cL 32 (by omega) q hroom
              have hy : cut.length = (32 : Int).toNat := by rw [Nc.out, List.length_take, LX.out]; rfl
              rw [← hy] at hcut
              have HY := Aside0.mk hy
              have RM := Aside0.mk hroom
              replace q := eq_true q
              clear hy HO hroom hi9 hsz
              go_wp2_with (first | ((with_reducible refine gate_dst (N := 107) rfl ?_); refine Kd.R_lit k53 _ 53 ?hg (N := 107) ?hd (xs := ([(⟨97, 0, 0⟩ : S53)] : List S53)) (inner := [.int .i32 97, .int .u32 0, .int .u32 0]) (ok := fun _ => True) (okp := fun _ => True) ?hr ?hp (fun _ hk => hk) trivial (Below.refl _ _) (Nat.le_refl _) (by simp) ?_; (case hd => rfl); (case hg => rfl); (case hr => first | (go_simp; done) | (go_simp; rfl)); (case hp => exact (Reps.c3 (show Kd.M k53 _ _ _ (⟨97, 0, 0⟩ : S53) [.int .i32 97, .int .u32 0, .int .u32 0] from (k53_mkM _ _ _ (⟨97, 0, 0⟩ : S53))) (Reps.none _ _))); intro vo wo_ ho hb hg_ hnew_; clear hg_ hnew_; rw [← N1.out] at ho; obtain ⟨AE, cE, ez, Ec, EC⟩ := Kd.R_reads ho; (first | subst ez | (injection ez with f1_ f2_ f3_; have f4_ := f1_.symm; have f5_ := f3_.symm; clear f1_ f2_ f3_; subst f4_; subst f5_)); have E := Aside0.mk EC; have Ed := Aside0.mk Ec; have n_ := Aside0.mk (Kd.C_below CL.out hb); clear CL; have CL := n_; clear n_; have n_ := Aside0.mk (below_step HB.out hb); clear HB; have HB := n_; clear n_; clear ho hb EC Ec; have hr := Kd.C_take (m := 32) CL.out (by rw [LX.out]; decide); rw [← Nc.out] at hr; have HR := Aside0.mk hr; clear hr; have hcv := Kd.C_string (P := Tryd.prog) (A := AL) (c := cL) Tryd.underlying54 Tryd.underlying5 Tryd.underlying9 HR.out) | ((with_reducible refine gate_dst (N := 111) rfl ?_); refine Kd.R_lit Kd.string _ 9 ?hg (N := 111) ?hd (xs := ([strOfNums cut, (⟨#[121]⟩ : ByteArray)] : List ByteArray)) (inner := [.string (strOfNums cut), .string ((⟨#[121]⟩ : ByteArray))]) (ok := fun _ => True) (okp := fun _ => True) ?hr ?hp (fun _ hk => hk) trivial (Below.refl _ _) (Nat.le_refl _) (by simp) ?_; (case hd => rfl); (case hg => rfl); (case hr => first | (go_simp; done) | (go_simp; rfl)); (case hp => exact (Reps.one (show Kd.M Kd.string _ _ _ (strOfNums cut) [.string (strOfNums cut)] from rfl) (Reps.one (show Kd.M Kd.string _ _ _ ((⟨#[121]⟩ : ByteArray)) [.string ((⟨#[121]⟩ : ByteArray))] from rfl) (Reps.none _ _)))); intro vt wt ho hb hg_ hnew_; clear hg_ hnew_; rw [← N2.out] at ho; obtain ⟨AT, cT, ez, Tc, TC⟩ := Kd.R_reads ho; (first | subst ez | (injection ez with f1_ f2_ f3_; have f4_ := f1_.symm; have f5_ := f3_.symm; clear f1_ f2_ f3_; subst f4_; subst f5_)); have T := Aside0.mk TC; have Td := Aside0.mk Tc; have n_ := Aside0.mk (Kd.C_below CL.out hb); clear CL; have CL := n_; clear n_; have n_ := Aside0.mk (Kd.C_below E.out hb); clear E; have E := n_; clear n_; have n_ := Aside0.mk (below_step HB.out hb); clear HB; have HB := n_; clear n_; clear ho hb TC Tc))
              refine (feature_Check.calls AT cT two AE cE one 0 _ T.out Td.out E.out Ed.out HV.out).mono ?_
              rintro e wz ⟨rfl, hb⟩
              have n_ := Aside0.mk (Kd.C_below CL.out hb)
              clear CL
              have CL := n_
              clear n_
              have n_ := Aside0.mk (Kd.C_below E.out hb)
              clear E
              have E := n_
              clear n_
              have n_ := Aside0.mk (below_step HB.out hb)
              clear HB
              have HB := n_
              clear n_
              clear hb hcut hcv HR HV T Td q
              have hcv := Kd.C_string (P := Tryd.prog) (A := AL) (c := cL) Tryd.underlying54 Tryd.underlying5 Tryd.underlying9 CL.out
              go_wp2_with ((with_reducible refine gate_dst (N := 118) rfl ?_); refine Kd.R_lit Kd.string _ 9 ?hg (N := 118) ?hd (xs := ([strOfNums xs, (⟨#[]⟩ : ByteArray), (⟨#[65]⟩ : ByteArray), (⟨#[97, 49]⟩ : ByteArray), (⟨#[195, 169]⟩ : ByteArray), (⟨#[97, 32, 98]⟩ : ByteArray)] : List ByteArray)) (inner := [.string (strOfNums xs), .string ((⟨#[]⟩ : ByteArray)), .string ((⟨#[65]⟩ : ByteArray)), .string ((⟨#[97, 49]⟩ : ByteArray)), .string ((⟨#[195, 169]⟩ : ByteArray)), .string ((⟨#[97, 32, 98]⟩ : ByteArray))]) (ok := fun _ => True) (okp := fun _ => True) ?hr ?hp (fun _ hk => hk) trivial (Below.refl _ _) (Nat.le_refl _) (by simp) ?_; (case hd => rfl); (case hg => rfl); (case hr => first | (go_simp; done) | (go_simp; rfl)); (case hp => exact (Reps.one (show Kd.M Kd.string _ _ _ (strOfNums xs) [.string (strOfNums xs)] from rfl) (Reps.one (show Kd.M Kd.string _ _ _ ((⟨#[]⟩ : ByteArray)) [.string ((⟨#[]⟩ : ByteArray))] from rfl) (Reps.one (show Kd.M Kd.string _ _ _ ((⟨#[65]⟩ : ByteArray)) [.string ((⟨#[65]⟩ : ByteArray))] from rfl) (Reps.one (show Kd.M Kd.string _ _ _ ((⟨#[97, 49]⟩ : ByteArray)) [.string ((⟨#[97, 49]⟩ : ByteArray))] from rfl) (Reps.one (show Kd.M Kd.string _ _ _ ((⟨#[195, 169]⟩ : ByteArray)) [.string ((⟨#[195, 169]⟩ : ByteArray))] from rfl) (Reps.one (show Kd.M Kd.string _ _ _ ((⟨#[97, 32, 98]⟩ : ByteArray)) [.string ((⟨#[97, 32, 98]⟩ : ByteArray))] from rfl) (Reps.none _ _)))))))); intro vw ww ho hb hg_ hnew_; clear hg_ hnew_; rw [← Nn.out] at ho; obtain ⟨AW, cW, ez, Wc, WC⟩ := Kd.R_reads ho; (first | subst ez | (injection ez with f1_ f2_ f3_; have f4_ := f1_.symm; have f5_ := f3_.symm; clear f1_ f2_ f3_; subst f4_; subst f5_)); have W := Aside0.mk WC; have Wd := Aside0.mk Wc; have n_ := Aside0.mk (Kd.C_below CL.out hb); clear CL; have CL := n_; clear n_; have n_ := Aside0.mk (Kd.C_below E.out hb); clear E; have E := n_; clear n_; have n_ := Aside0.mk (below_step HB.out hb); clear HB; have HB := n_; clear n_; clear ho hb WC Wc)
              clear hcv CL LX HL RM HY Nc N2
              have ln : nms.length = 6 := by rw [HN.out]; rfl
              have LN := Aside0.mk ln
              clear ln Nn
              go_loopw [18] (fun v w' => ∃ x : Int, v = .int .i64 x ∧ Aside0 (0 ≤ x) ∧ Aside0 (x ≤ 6) ∧ Aside0 (Kd.C k53 w' AE one.length one) ∧ Aside0 (Kd.C Kd.string w' AW nms.length nms) ∧ Aside0 (Below w.heap.size w w')) (fun v _ => 6 - (intOf v).toNat)
              case atStart => exact ⟨0, rfl, ⟨by decide⟩, ⟨by decide⟩, E, W, HB⟩
              case round =>
                clear E W HB
                obtain ⟨x, rfl, X0, X1, E, W, HB⟩ := hrel
                by_cases hc : x < 6
                · have X2 := Aside0.mk hc
                  have hw : wrap64 (x + 1) = x + 1 := w64 (by have := X0.out; omega)
                  have HW := Aside0.mk hw
                  clear hw hc
                  have p0 : 0 ≤ x := X0.out
                  have q0 : x < (nms.length : Int) := by rw [LN.out]; exact X2.out
                  have i0 : decide (x < (nms.length : Int)) = true := decide_eq_true q0
                  have i1 : decide (0 ≤ x) = true := decide_eq_true p0
                  have h1 : x.toNat ≤ (wrap64 (x + 1)).toNat := by rw [HW.out]; omega
                  have h2 : (wrap64 (x + 1)).toNat ≤ nms.length := by rw [HW.out]; omega
                  have q1 : x ≤ wrap64 (x + 1) := by rw [HW.out]; omega
                  have q2 : wrap64 (x + 1) ≤ (nms.length : Int) := by rw [HW.out]; omega
                  obtain ⟨sl, hsl⟩ : ∃ y_ : List ByteArray, y_ = (nms.take (wrap64 (x + 1)).toNat).drop x.toNat := ⟨_, rfl⟩
                  have Ns := Aside0.mk hsl
                  clear hsl
                  have HV : Aside0 (feature_Check.f sl one = some 7) := ⟨by rw [Ns.out, N1.out, HW.out, show (x + 1).toNat = x.toNat + 1 by have := X0.out; omega, HN.out]; exact name_ok x.toNat (by have := X2.out; omega)⟩
                  obtain ⟨i9, hi9, _, hsz, _⟩ := info_parts info9
                  have hcut := cut_mid (P := Tryd.prog) 22 9 .i64 .i64 Tryd.underlying22 hi9 1 hsz AW nms.length cW x (wrap64 (x + 1)) p0 q1 q2 Wd.out
                  have hr := Kd.C_mid (lo := x.toNat) (hi := (wrap64 (x + 1)).toNat) (c := cW) W.out h1 h2 Wd.out
                  obtain ⟨A4, hA4⟩ : ∃ A1, A1 = (if cW = x.toNat then AW else (AW : Option Addr).map (·.add (x.toNat * 1))) := ⟨_, rfl⟩
                  obtain ⟨c4, hc4⟩ : ∃ c1, c1 = cW - x.toNat := ⟨_, rfl⟩
                  have hy : sl.length = (wrap64 (x + 1)).toNat - x.toNat := by rw [Ns.out, List.length_drop, List.length_take, Nat.min_eq_left h2]
                  rw [show (nms.take (wrap64 (x + 1)).toNat).drop x.toNat = sl from Ns.out.symm] at hr
                  replace hr : Kd.C Kd.string _ A4 sl.length sl := (by rw [hA4]; exact hr)
                  rw [← hy, ← hA4, ← hc4] at hcut
                  have HR := Aside0.mk hr
                  have HC := Aside0.mk (show sl.length ≤ c4 from by rw [hy, hc4]; exact Nat.sub_le_sub_right (Nat.le_trans h2 Wd.out) _)
                  clear hr hi9 hsz hc4 hy hA4 h1 h2
                  have j1 : decide (x ≤ wrap64 (x + 1)) = true := decide_eq_true q1
                  have j2 : decide (wrap64 (x + 1) ≤ (nms.length : Int)) = true := decide_eq_true q2
                  replace p0 := eq_true p0
                  replace q0 := eq_true q0
                  replace q1 := eq_true q1
                  replace q2 := eq_true q2
                  go_wp2_with fail
                  refine (feature_Check.calls A4 c4 sl AE cE one 7 _ HR.out HC.out E.out Ed.out HV.out).mono ?_
                  rintro e wz ⟨rfl, hb⟩
                  have HB2 := Aside0.mk (below_step HB.out hb)
                  have E2 := Aside0.mk (Kd.C_below E.out hb)
                  have W2 := Aside0.mk (Kd.C_below W.out hb)
                  clear hb HB E W
                  go_wp2
                  go_roundw
                  case rel =>
                    refine ⟨wrap64 (x + 1), (by first | rfl | (simp; done) | (simp [*]; done)), ⟨?_⟩, ⟨?_⟩, E2, W2, HB2⟩
                    · rw [HW.out]; have := X0.out; omega
                    · rw [HW.out]; have := X2.out; omega
                  case measure =>
                    have z0 := X0.out
                    have z2 := X2.out
                    simp only [intOf]
                    rw [HW.out]
                    omega
                · have z1 := X1.out
                  obtain rfl : x = 6 := by omega
                  have i0 : decide ((6 : Int) < (nms.length : Int)) = false := decide_eq_false (by rw [LN.out]; decide)
                  clear hc z1 X0 X1 W
                  obtain ⟨wo4, hwo⟩ : ∃ wo : World, wo = wr := ⟨_, rfl⟩
                  subst hwo
                  obtain ⟨s1, hq⟩ : ∃ y_ : List ByteArray, y_ = [(⟨#[120]⟩ : ByteArray), (⟨#[120]⟩ : ByteArray)] := ⟨_, rfl⟩
                  have Ns1 := Aside0.mk hq
                  clear hq
                  obtain ⟨l2, hq⟩ : ∃ y_ : List S53, y_ = [(⟨97, 0, 0⟩ : S53), (⟨97, 0, 0⟩ : S53)] := ⟨_, rfl⟩
                  have Nl2 := Aside0.mk hq
                  clear hq
                  obtain ⟨s3, hq⟩ : ∃ y_ : List ByteArray, y_ = [(⟨#[120]⟩ : ByteArray)] := ⟨_, rfl⟩
                  have Ns3 := Aside0.mk hq
                  clear hq
                  obtain ⟨l3, hq⟩ : ∃ y_ : List S53, y_ = [(⟨97, 1, 1⟩ : S53)] := ⟨_, rfl⟩
                  have Nl3 := Aside0.mk hq
                  clear hq
                  obtain ⟨s4, hq⟩ : ∃ y_ : List ByteArray, y_ = [(⟨#[120]⟩ : ByteArray)] := ⟨_, rfl⟩
                  have Ns4 := Aside0.mk hq
                  clear hq
                  obtain ⟨l4, hq⟩ : ∃ y_ : List S53, y_ = [(⟨97, 2, 0⟩ : S53)] := ⟨_, rfl⟩
                  have Nl4 := Aside0.mk hq
                  clear hq
                  have V1 : Aside0 (feature_Check.f s1 one = some 7) := ⟨by rw [Ns1.out, N1.out]; exact last_1⟩
                  have V2 : Aside0 (feature_Check.f [] l2 = some 7) := ⟨by rw [Nl2.out]; exact last_2⟩
                  have V3 : Aside0 (feature_Check.f s3 l3 = some 7) := ⟨by rw [Ns3.out, Nl3.out]; exact last_3⟩
                  have V4 : Aside0 (feature_Check.f s4 l4 = some 7) := ⟨by rw [Ns4.out, Nl4.out]; exact last_4⟩
                  go_wp2_with ((with_reducible refine gate_dst (N := 134) rfl ?_); refine Kd.R_lit Kd.string _ 9 ?hg (N := 134) ?hd (xs := ([(⟨#[120]⟩ : ByteArray), (⟨#[120]⟩ : ByteArray)] : List ByteArray)) (inner := [.string ((⟨#[120]⟩ : ByteArray)), .string ((⟨#[120]⟩ : ByteArray))]) (ok := fun _ => True) (okp := fun _ => True) ?hr ?hp (fun _ hk => hk) trivial (Below.refl _ _) (Nat.le_refl _) (by simp) ?_; (case hd => rfl); (case hg => rfl); (case hr => first | (go_simp; done) | (go_simp; rfl)); (case hp => exact (Reps.one (show Kd.M Kd.string _ _ _ ((⟨#[120]⟩ : ByteArray)) [.string ((⟨#[120]⟩ : ByteArray))] from rfl) (Reps.one (show Kd.M Kd.string _ _ _ ((⟨#[120]⟩ : ByteArray)) [.string ((⟨#[120]⟩ : ByteArray))] from rfl) (Reps.none _ _)))); intro va wa ho hb hg_ hnew_; clear hg_ hnew_; rw [← Ns1.out] at ho; obtain ⟨AS1, cS1, ez, S1c, S1C⟩ := Kd.R_reads ho; (first | subst ez | (injection ez with f1_ f2_ f3_; have f4_ := f1_.symm; have f5_ := f3_.symm; clear f1_ f2_ f3_; subst f4_; subst f5_)); have S1 := Aside0.mk S1C; have S1d := Aside0.mk S1c; have n_ := Aside0.mk (Kd.C_below E.out hb); clear E; have E := n_; clear n_; have n_ := Aside0.mk (below_step HB.out hb); clear HB; have HB := n_; clear n_; clear ho hb S1C S1c)
                  refine (feature_Check.calls AS1 cS1 s1 AE cE one 7 _ S1.out S1d.out E.out Ed.out V1.out).mono ?_
                  rintro e wb ⟨rfl, hb⟩
                  have n_ := Aside0.mk (below_step HB.out hb)
                  clear HB
                  have HB := n_
                  clear n_
                  clear hb E S1
                  go_wp2_with ((with_reducible refine gate_dst (N := 140) rfl ?_); refine Kd.R_lit k53 _ 53 ?hg (N := 140) ?hd (xs := ([(⟨97, 0, 0⟩ : S53), (⟨97, 0, 0⟩ : S53)] : List S53)) (inner := [.int .i32 97, .int .u32 0, .int .u32 0, .int .i32 97, .int .u32 0, .int .u32 0]) (ok := fun _ => True) (okp := fun _ => True) ?hr ?hp (fun _ hk => hk) trivial (Below.refl _ _) (Nat.le_refl _) (by simp) ?_; (case hd => rfl); (case hg => rfl); (case hr => first | (go_simp; done) | (go_simp; rfl)); (case hp => exact (Reps.c3 (show Kd.M k53 _ _ _ (⟨97, 0, 0⟩ : S53) [.int .i32 97, .int .u32 0, .int .u32 0] from (k53_mkM _ _ _ (⟨97, 0, 0⟩ : S53))) (Reps.c3 (show Kd.M k53 _ _ _ (⟨97, 0, 0⟩ : S53) [.int .i32 97, .int .u32 0, .int .u32 0] from (k53_mkM _ _ _ (⟨97, 0, 0⟩ : S53))) (Reps.none _ _)))); intro vc wc_ ho hb hg_ hnew_; clear hg_ hnew_; rw [← Nl2.out] at ho; obtain ⟨AL2k, cL2k, ez, L2kc, L2kC⟩ := Kd.R_reads ho; (first | subst ez | (injection ez with f1_ f2_ f3_; have f4_ := f1_.symm; have f5_ := f3_.symm; clear f1_ f2_ f3_; subst f4_; subst f5_)); have L2k := Aside0.mk L2kC; have L2kd := Aside0.mk L2kc; have n_ := Aside0.mk (below_step HB.out hb); clear HB; have HB := n_; clear n_; clear ho hb L2kC L2kc)
                  refine (feature_Check.calls none 0 [] AL2k cL2k l2 7 _ (C_none _ _) (Nat.le_refl _) L2k.out L2kd.out V2.out).mono ?_
                  rintro e wd ⟨rfl, hb⟩
                  have n_ := Aside0.mk (below_step HB.out hb)
                  clear HB
                  have HB := n_
                  clear n_
                  clear hb L2k
                  go_wp2_with (first | ((with_reducible refine gate_dst (N := 143) rfl ?_); refine Kd.R_lit Kd.string _ 9 ?hg (N := 143) ?hd (xs := ([(⟨#[120]⟩ : ByteArray)] : List ByteArray)) (inner := [.string ((⟨#[120]⟩ : ByteArray))]) (ok := fun _ => True) (okp := fun _ => True) ?hr ?hp (fun _ hk => hk) trivial (Below.refl _ _) (Nat.le_refl _) (by simp) ?_; (case hd => rfl); (case hg => rfl); (case hr => first | (go_simp; done) | (go_simp; rfl)); (case hp => exact (Reps.one (show Kd.M Kd.string _ _ _ ((⟨#[120]⟩ : ByteArray)) [.string ((⟨#[120]⟩ : ByteArray))] from rfl) (Reps.none _ _))); intro vs3 ws3 ho hb hg_ hnew_; clear hg_ hnew_; rw [← Ns3.out] at ho; obtain ⟨ASk3, cSk3, ez, Sk3c, Sk3C⟩ := Kd.R_reads ho; (first | subst ez | (injection ez with f1_ f2_ f3_; have f4_ := f1_.symm; have f5_ := f3_.symm; clear f1_ f2_ f3_; subst f4_; subst f5_)); have Sk3 := Aside0.mk Sk3C; have Sk3d := Aside0.mk Sk3c; have n_ := Aside0.mk (below_step HB.out hb); clear HB; have HB := n_; clear n_; clear ho hb Sk3C Sk3c) | ((with_reducible refine gate_dst (N := 145) rfl ?_); refine Kd.R_lit k53 _ 53 ?hg (N := 145) ?hd (xs := ([(⟨97, 1, 1⟩ : S53)] : List S53)) (inner := [.int .i32 97, .int .u32 1, .int .u32 1]) (ok := fun _ => True) (okp := fun _ => True) ?hr ?hp (fun _ hk => hk) trivial (Below.refl _ _) (Nat.le_refl _) (by simp) ?_; (case hd => rfl); (case hg => rfl); (case hr => first | (go_simp; done) | (go_simp; rfl)); (case hp => exact (Reps.c3 (show Kd.M k53 _ _ _ (⟨97, 1, 1⟩ : S53) [.int .i32 97, .int .u32 1, .int .u32 1] from (k53_mkM _ _ _ (⟨97, 1, 1⟩ : S53))) (Reps.none _ _))); intro vl3 wl23 ho hb hg_ hnew_; clear hg_ hnew_; rw [← Nl3.out] at ho; obtain ⟨ALk3, cLk3, ez, Lk3c, Lk3C⟩ := Kd.R_reads ho; (first | subst ez | (injection ez with f1_ f2_ f3_; have f4_ := f1_.symm; have f5_ := f3_.symm; clear f1_ f2_ f3_; subst f4_; subst f5_)); have Lk3 := Aside0.mk Lk3C; have Lk3d := Aside0.mk Lk3c; have n_ := Aside0.mk (Kd.C_below Sk3.out hb); clear Sk3; have Sk3 := n_; clear n_; have n_ := Aside0.mk (below_step HB.out hb); clear HB; have HB := n_; clear n_; clear ho hb Lk3C Lk3c))
                  refine (feature_Check.calls ASk3 cSk3 s3 ALk3 cLk3 l3 7 _ Sk3.out Sk3d.out Lk3.out Lk3d.out V3.out).mono ?_
                  rintro e wf3 ⟨rfl, hb⟩
                  have n_ := Aside0.mk (below_step HB.out hb)
                  clear HB
                  have HB := n_
                  clear n_
                  clear hb Sk3 Lk3
                  go_wp2_with (first | ((with_reducible refine gate_dst (N := 148) rfl ?_); refine Kd.R_lit Kd.string _ 9 ?hg (N := 148) ?hd (xs := ([(⟨#[120]⟩ : ByteArray)] : List ByteArray)) (inner := [.string ((⟨#[120]⟩ : ByteArray))]) (ok := fun _ => True) (okp := fun _ => True) ?hr ?hp (fun _ hk => hk) trivial (Below.refl _ _) (Nat.le_refl _) (by simp) ?_; (case hd => rfl); (case hg => rfl); (case hr => first | (go_simp; done) | (go_simp; rfl)); (case hp => exact (Reps.one (show Kd.M Kd.string _ _ _ ((⟨#[120]⟩ : ByteArray)) [.string ((⟨#[120]⟩ : ByteArray))] from rfl) (Reps.none _ _))); intro vs4 ws4 ho hb hg_ hnew_; clear hg_ hnew_; rw [← Ns4.out] at ho; obtain ⟨ASk4, cSk4, ez, Sk4c, Sk4C⟩ := Kd.R_reads ho; (first | subst ez | (injection ez with f1_ f2_ f3_; have f4_ := f1_.symm; have f5_ := f3_.symm; clear f1_ f2_ f3_; subst f4_; subst f5_)); have Sk4 := Aside0.mk Sk4C; have Sk4d := Aside0.mk Sk4c; have n_ := Aside0.mk (below_step HB.out hb); clear HB; have HB := n_; clear n_; clear ho hb Sk4C Sk4c) | ((with_reducible refine gate_dst (N := 150) rfl ?_); refine Kd.R_lit k53 _ 53 ?hg (N := 150) ?hd (xs := ([(⟨97, 2, 0⟩ : S53)] : List S53)) (inner := [.int .i32 97, .int .u32 2, .int .u32 0]) (ok := fun _ => True) (okp := fun _ => True) ?hr ?hp (fun _ hk => hk) trivial (Below.refl _ _) (Nat.le_refl _) (by simp) ?_; (case hd => rfl); (case hg => rfl); (case hr => first | (go_simp; done) | (go_simp; rfl)); (case hp => exact (Reps.c3 (show Kd.M k53 _ _ _ (⟨97, 2, 0⟩ : S53) [.int .i32 97, .int .u32 2, .int .u32 0] from (k53_mkM _ _ _ (⟨97, 2, 0⟩ : S53))) (Reps.none _ _))); intro vl4 wl24 ho hb hg_ hnew_; clear hg_ hnew_; rw [← Nl4.out] at ho; obtain ⟨ALk4, cLk4, ez, Lk4c, Lk4C⟩ := Kd.R_reads ho; (first | subst ez | (injection ez with f1_ f2_ f3_; have f4_ := f1_.symm; have f5_ := f3_.symm; clear f1_ f2_ f3_; subst f4_; subst f5_)); have Lk4 := Aside0.mk Lk4C; have Lk4d := Aside0.mk Lk4c; have n_ := Aside0.mk (Kd.C_below Sk4.out hb); clear Sk4; have Sk4 := n_; clear n_; have n_ := Aside0.mk (below_step HB.out hb); clear HB; have HB := n_; clear n_; clear ho hb Lk4C Lk4c))
                  refine (feature_Check.calls ASk4 cSk4 s4 ALk4 cLk4 l4 7 _ Sk4.out Sk4d.out Lk4.out Lk4d.out V4.out).mono ?_
                  rintro e wf4 ⟨rfl, hb⟩
                  have n_ := Aside0.mk (below_step HB.out hb)
                  clear HB
                  have HB := n_
                  clear n_
                  clear hb Sk4 Lk4
                  go_wp2
                  go_ret
                  exact ⟨rfl, HB.out⟩
end Go.Proofs.YtjnikjnkmcbjfaaDoor.X
