-- Written by this session's own program wip/gen/xprint.py (out of the translation, by the kit's printer taught a few things more).
import Derived.Test.YtjnikjnkmcbjfaaDoorX0
import Derived.Test.YtjnikjnkmcbjfaaDoorX1
import Derived.Test.YtjnikjnkmcbjfaaDoorX21
import Derived.Test.YtjnikjnkmcbjfaaDoorX22
import Derived.Test.YtjnikjnkmcbjfaaDoorGLetters
namespace Go.Proofs.YtjnikjnkmcbjfaaDoor.X
open Go.RowKit Go.Proofs.YtjnikjnkmcbjfaaDoorW.PrintWords Go.Proofs.YtjnikjnkmcbjfaaDoorW.PrintLast Go.Proofs.YtjnikjnkmcbjfaaDoorW.PrintMore
attribute [local go_sem] max2_int min2_int max_two min_two max_three min_three max_four min_four   -- for this text's walks alone
set_option linter.unusedVariables false
set_option linter.unusedSimpArgs false

attribute [local go_sem high] eqA35
/-! ### cognatelaw15_DoubleBack: function 4 -/
mutual
def cognatelaw15_DoubleBack.j0 : Nat → ByteArray → Int → List Int → ByteArray → Bool → List ByteArray → List (S53) → Option (Bool)
  | 0, _, _, _, _, _, _, _ => none
  | k + 1, x1, x2, x8, x15, x85, x260000, x260001 => if x85 = true then ((double_Single.f k x260000 x260001 x15 x2).bind fun bt272 => (if bt272.2.2 = 0 then (if bt272.2.1 = true then (cognatelaw15_DoubleBack.j1 k x1 x2 x8 (bt272.1.toList != x1.toList) x260000 x260001) else (cognatelaw15_DoubleBack.j1 k x1 x2 x8 true x260000 x260001)) else (cognatelaw15_DoubleBack.j1 k x1 x2 x8 true x260000 x260001))) else (cognatelaw15_DoubleBack.j2 k x1 x2 x8 x260000 x260001)
def cognatelaw15_DoubleBack.j2 : Nat → ByteArray → Int → List Int → List ByteArray → List (S53) → Option (Bool)
  | 0, _, _, _, _, _ => none
  | k + 1, x1, x2, x8, x260000, x260001 => (double_Whole.f x260000 x260001 x1).bind fun bt275 => (if bt275.2 = 0 then (if (x8.length : Int) > 0 then (cognatelaw15_DoubleBack.j3 k x1 x2 x8 bt275.1 (decide ((wrap64 (2 * (x8.length : Int))) ≤ 64)) x260000 x260001) else (cognatelaw15_DoubleBack.j3 k x1 x2 x8 bt275.1 false x260000 x260001)) else (some false))
def cognatelaw15_DoubleBack.j3 : Nat → ByteArray → Int → List Int → ByteArray → Bool → List ByteArray → List (S53) → Option (Bool)
  | 0, _, _, _, _, _, _, _ => none
  | k + 1, x1, x2, x8, x15, x121, x260000, x260001 => if x121 = true then ((double_Single.f k x260000 x260001 x15 0).bind fun bt277 => ((double_Runs.f k x260000 x260001 x15).bind fun bt280 => (if bt277.2.2 = 0 then (if bt277.2.1 = true then (if bt277.1.toList = x1.toList then (if bt280.2 = 0 then (if (bt280.1.length : Int) = 0 then (cognatelaw15_DoubleBack.j4 k x1 x2 true x260000 x260001) else (if 0 < (bt280.1.length : Int) then (cognatelaw15_DoubleBack.j4 k x1 x2 (!(((rd_T35 bt280.1 0).f0) == 0) || (!(((rd_T35 bt280.1 0).f1) == (wrap64 (2 * (x8.length : Int)))))) x260000 x260001) else (none))) else (cognatelaw15_DoubleBack.j4 k x1 x2 true x260000 x260001)) else (cognatelaw15_DoubleBack.j4 k x1 x2 true x260000 x260001)) else (cognatelaw15_DoubleBack.j4 k x1 x2 true x260000 x260001)) else (cognatelaw15_DoubleBack.j4 k x1 x2 true x260000 x260001)))) else (cognatelaw15_DoubleBack.j5 k x1 x2 x260000 x260001)
def cognatelaw15_DoubleBack.j5 : Nat → ByteArray → Int → List ByteArray → List (S53) → Option (Bool)
  | 0, _, _, _, _ => none
  | k + 1, x1, x2, x260000, x260001 => (double_Single.f k x260000 x260001 x1 x2).bind fun bt285 => (if bt285.2.2 = 0 then (cognatelaw15_DoubleBack.j6 k x1 x2 bt285.1 (!bt285.2.1) x260000 x260001) else (cognatelaw15_DoubleBack.j6 k x1 x2 bt285.1 true x260000 x260001))
def cognatelaw15_DoubleBack.j6 : Nat → ByteArray → Int → ByteArray → Bool → List ByteArray → List (S53) → Option (Bool)
  | 0, _, _, _, _, _, _ => none
  | k + 1, x1, x2, x25, x178, x260000, x260001 => if x178 = true then (some (x25.toList == ([] : List UInt8))) else (if x2 = 0 then ((double_Whole.f x260000 x260001 x25).bind fun bt288 => (if bt288.2 = 0 then (some (bt288.1.toList == x1.toList)) else (some false))) else ((double_Front.f k x260000 x260001 x25 x2).bind fun bt290 => (if bt290.2 = 0 then (some (bt290.1.toList == x1.toList)) else (some false))))
def cognatelaw15_DoubleBack.j4 : Nat → ByteArray → Int → Bool → List ByteArray → List (S53) → Option (Bool)
  | 0, _, _, _, _, _ => none
  | k + 1, x1, x2, x164, x260000, x260001 => if x164 = true then (some false) else (cognatelaw15_DoubleBack.j5 k x1 x2 x260000 x260001)
def cognatelaw15_DoubleBack.j1 : Nat → ByteArray → Int → List Int → Bool → List ByteArray → List (S53) → Option (Bool)
  | 0, _, _, _, _, _, _ => none
  | k + 1, x1, x2, x8, x104, x260000, x260001 => if x104 = true then (some false) else (cognatelaw15_DoubleBack.j2 k x1 x2 x8 x260000 x260001)
end
def cognatelaw15_DoubleBack.f (k : Nat) (l0_0 : List ByteArray) (l0_1 : List (S53)) (a1 : ByteArray) (a2 : Int) : Option (Bool) := (cognatelaw15_awake.f k).bind fun t260 => (if t260 = true then ((word_Letters.f l0_0 l0_1 a1).bind fun bt261 => (if bt261.2 = 0 then ((double_Front.f k l0_0 l0_1 a1 a2).bind fun bt270 => (if bt270.2 = 0 then (if a2 > 0 then (cognatelaw15_DoubleBack.j0 k a1 a2 bt261.1 bt270.1 (decide ((wrap64 ((bt261.1.length : Int) + a2)) ≤ 64)) l0_0 l0_1) else (cognatelaw15_DoubleBack.j0 k a1 a2 bt261.1 bt270.1 false l0_0 l0_1)) else (cognatelaw15_DoubleBack.j0 k a1 a2 bt261.1 bt270.1 false l0_0 l0_1))) else ((double_Front.f k l0_0 l0_1 a1 a2).bind fun bt265 => ((double_Single.f k l0_0 l0_1 a1 a2).bind fun bt267 => (if bt265.2 = bt261.2 then (some (bt267.2.2 == bt261.2)) else (some false)))))) else (some false))
theorem cognatelaw15_DoubleBack.mono_l : ∀ k, (∀ y0 y1 y2 y3 y4 y5 y6, LeO (cognatelaw15_DoubleBack.j0 k y0 y1 y2 y3 y4 y5 y6) (cognatelaw15_DoubleBack.j0 (k + 1) y0 y1 y2 y3 y4 y5 y6)) ∧ (∀ y0 y1 y2 y3 y4, LeO (cognatelaw15_DoubleBack.j2 k y0 y1 y2 y3 y4) (cognatelaw15_DoubleBack.j2 (k + 1) y0 y1 y2 y3 y4)) ∧ (∀ y0 y1 y2 y3 y4 y5 y6, LeO (cognatelaw15_DoubleBack.j3 k y0 y1 y2 y3 y4 y5 y6) (cognatelaw15_DoubleBack.j3 (k + 1) y0 y1 y2 y3 y4 y5 y6)) ∧ (∀ y0 y1 y2 y3, LeO (cognatelaw15_DoubleBack.j5 k y0 y1 y2 y3) (cognatelaw15_DoubleBack.j5 (k + 1) y0 y1 y2 y3)) ∧ (∀ y0 y1 y2 y3 y4 y5, LeO (cognatelaw15_DoubleBack.j6 k y0 y1 y2 y3 y4 y5) (cognatelaw15_DoubleBack.j6 (k + 1) y0 y1 y2 y3 y4 y5)) ∧ (∀ y0 y1 y2 y3 y4, LeO (cognatelaw15_DoubleBack.j4 k y0 y1 y2 y3 y4) (cognatelaw15_DoubleBack.j4 (k + 1) y0 y1 y2 y3 y4)) ∧ (∀ y0 y1 y2 y3 y4 y5, LeO (cognatelaw15_DoubleBack.j1 k y0 y1 y2 y3 y4 y5) (cognatelaw15_DoubleBack.j1 (k + 1) y0 y1 y2 y3 y4 y5))
  | 0 => ⟨fun _ _ _ _ _ _ _ r h => by simp [cognatelaw15_DoubleBack.j0] at h, fun _ _ _ _ _ r h => by simp [cognatelaw15_DoubleBack.j2] at h, fun _ _ _ _ _ _ _ r h => by simp [cognatelaw15_DoubleBack.j3] at h, fun _ _ _ _ r h => by simp [cognatelaw15_DoubleBack.j5] at h, fun _ _ _ _ _ _ r h => by simp [cognatelaw15_DoubleBack.j6] at h, fun _ _ _ _ _ r h => by simp [cognatelaw15_DoubleBack.j4] at h, fun _ _ _ _ _ _ r h => by simp [cognatelaw15_DoubleBack.j1] at h⟩
  | k + 1 => by
    obtain ⟨ih0, ih1, ih2, ih3, ih4, ih5, ih6⟩ := cognatelaw15_DoubleBack.mono_l k
    refine ⟨?_, ?_, ?_, ?_, ?_, ?_, ?_⟩
    · intro y0 y1 y2 y3 y4 y5 y6
      unfold cognatelaw15_DoubleBack.j0
      repeat' first
      | (with_reducible exact ih0 _ _ _ _ _ _ _)
      | (with_reducible exact ih1 _ _ _ _ _)
      | (with_reducible exact ih2 _ _ _ _ _ _ _)
      | (with_reducible exact ih3 _ _ _ _)
      | (with_reducible exact ih4 _ _ _ _ _ _)
      | (with_reducible exact ih5 _ _ _ _ _)
      | (with_reducible exact ih6 _ _ _ _ _ _)
      | (with_reducible exact cognatelaw15_awake.mono _)
      | (with_reducible exact double_Front.mono _ _ _ _ _)
      | (with_reducible exact double_Runs.mono _ _ _ _)
      | (with_reducible exact double_Single.mono _ _ _ _ _)
      | (with_reducible exact LeO.refl _)
      | (with_reducible exact LeO.none _)
      | (with_reducible refine LeO.ite ?_ ?_)
      | (with_reducible refine LeO.bind ?_ (fun _ => ?_))
      | exact ih0 _ _ _ _ _ _ _
      | exact ih1 _ _ _ _ _
      | exact ih2 _ _ _ _ _ _ _
      | exact ih3 _ _ _ _
      | exact ih4 _ _ _ _ _ _
      | exact ih5 _ _ _ _ _
      | exact ih6 _ _ _ _ _ _
      | exact cognatelaw15_awake.mono _
      | exact double_Front.mono _ _ _ _ _
      | exact double_Runs.mono _ _ _ _
      | exact double_Single.mono _ _ _ _ _
      | exact LeO.none _
      | refine LeO.ite ?_ ?_
      | refine LeO.bind ?_ (fun _ => ?_)
    · intro y0 y1 y2 y3 y4
      unfold cognatelaw15_DoubleBack.j2
      repeat' first
      | (with_reducible exact ih0 _ _ _ _ _ _ _)
      | (with_reducible exact ih1 _ _ _ _ _)
      | (with_reducible exact ih2 _ _ _ _ _ _ _)
      | (with_reducible exact ih3 _ _ _ _)
      | (with_reducible exact ih4 _ _ _ _ _ _)
      | (with_reducible exact ih5 _ _ _ _ _)
      | (with_reducible exact ih6 _ _ _ _ _ _)
      | (with_reducible exact cognatelaw15_awake.mono _)
      | (with_reducible exact double_Front.mono _ _ _ _ _)
      | (with_reducible exact double_Runs.mono _ _ _ _)
      | (with_reducible exact double_Single.mono _ _ _ _ _)
      | (with_reducible exact LeO.refl _)
      | (with_reducible exact LeO.none _)
      | (with_reducible refine LeO.ite ?_ ?_)
      | (with_reducible refine LeO.bind ?_ (fun _ => ?_))
      | exact ih0 _ _ _ _ _ _ _
      | exact ih1 _ _ _ _ _
      | exact ih2 _ _ _ _ _ _ _
      | exact ih3 _ _ _ _
      | exact ih4 _ _ _ _ _ _
      | exact ih5 _ _ _ _ _
      | exact ih6 _ _ _ _ _ _
      | exact cognatelaw15_awake.mono _
      | exact double_Front.mono _ _ _ _ _
      | exact double_Runs.mono _ _ _ _
      | exact double_Single.mono _ _ _ _ _
      | exact LeO.none _
      | refine LeO.ite ?_ ?_
      | refine LeO.bind ?_ (fun _ => ?_)
    · intro y0 y1 y2 y3 y4 y5 y6
      unfold cognatelaw15_DoubleBack.j3
      repeat' first
      | (with_reducible exact ih0 _ _ _ _ _ _ _)
      | (with_reducible exact ih1 _ _ _ _ _)
      | (with_reducible exact ih2 _ _ _ _ _ _ _)
      | (with_reducible exact ih3 _ _ _ _)
      | (with_reducible exact ih4 _ _ _ _ _ _)
      | (with_reducible exact ih5 _ _ _ _ _)
      | (with_reducible exact ih6 _ _ _ _ _ _)
      | (with_reducible exact cognatelaw15_awake.mono _)
      | (with_reducible exact double_Front.mono _ _ _ _ _)
      | (with_reducible exact double_Runs.mono _ _ _ _)
      | (with_reducible exact double_Single.mono _ _ _ _ _)
      | (with_reducible exact LeO.refl _)
      | (with_reducible exact LeO.none _)
      | (with_reducible refine LeO.ite ?_ ?_)
      | (with_reducible refine LeO.bind ?_ (fun _ => ?_))
      | exact ih0 _ _ _ _ _ _ _
      | exact ih1 _ _ _ _ _
      | exact ih2 _ _ _ _ _ _ _
      | exact ih3 _ _ _ _
      | exact ih4 _ _ _ _ _ _
      | exact ih5 _ _ _ _ _
      | exact ih6 _ _ _ _ _ _
      | exact cognatelaw15_awake.mono _
      | exact double_Front.mono _ _ _ _ _
      | exact double_Runs.mono _ _ _ _
      | exact double_Single.mono _ _ _ _ _
      | exact LeO.none _
      | refine LeO.ite ?_ ?_
      | refine LeO.bind ?_ (fun _ => ?_)
    · intro y0 y1 y2 y3
      unfold cognatelaw15_DoubleBack.j5
      repeat' first
      | (with_reducible exact ih0 _ _ _ _ _ _ _)
      | (with_reducible exact ih1 _ _ _ _ _)
      | (with_reducible exact ih2 _ _ _ _ _ _ _)
      | (with_reducible exact ih3 _ _ _ _)
      | (with_reducible exact ih4 _ _ _ _ _ _)
      | (with_reducible exact ih5 _ _ _ _ _)
      | (with_reducible exact ih6 _ _ _ _ _ _)
      | (with_reducible exact cognatelaw15_awake.mono _)
      | (with_reducible exact double_Front.mono _ _ _ _ _)
      | (with_reducible exact double_Runs.mono _ _ _ _)
      | (with_reducible exact double_Single.mono _ _ _ _ _)
      | (with_reducible exact LeO.refl _)
      | (with_reducible exact LeO.none _)
      | (with_reducible refine LeO.ite ?_ ?_)
      | (with_reducible refine LeO.bind ?_ (fun _ => ?_))
      | exact ih0 _ _ _ _ _ _ _
      | exact ih1 _ _ _ _ _
      | exact ih2 _ _ _ _ _ _ _
      | exact ih3 _ _ _ _
      | exact ih4 _ _ _ _ _ _
      | exact ih5 _ _ _ _ _
      | exact ih6 _ _ _ _ _ _
      | exact cognatelaw15_awake.mono _
      | exact double_Front.mono _ _ _ _ _
      | exact double_Runs.mono _ _ _ _
      | exact double_Single.mono _ _ _ _ _
      | exact LeO.none _
      | refine LeO.ite ?_ ?_
      | refine LeO.bind ?_ (fun _ => ?_)
    · intro y0 y1 y2 y3 y4 y5
      unfold cognatelaw15_DoubleBack.j6
      repeat' first
      | (with_reducible exact ih0 _ _ _ _ _ _ _)
      | (with_reducible exact ih1 _ _ _ _ _)
      | (with_reducible exact ih2 _ _ _ _ _ _ _)
      | (with_reducible exact ih3 _ _ _ _)
      | (with_reducible exact ih4 _ _ _ _ _ _)
      | (with_reducible exact ih5 _ _ _ _ _)
      | (with_reducible exact ih6 _ _ _ _ _ _)
      | (with_reducible exact cognatelaw15_awake.mono _)
      | (with_reducible exact double_Front.mono _ _ _ _ _)
      | (with_reducible exact double_Runs.mono _ _ _ _)
      | (with_reducible exact double_Single.mono _ _ _ _ _)
      | (with_reducible exact LeO.refl _)
      | (with_reducible exact LeO.none _)
      | (with_reducible refine LeO.ite ?_ ?_)
      | (with_reducible refine LeO.bind ?_ (fun _ => ?_))
      | exact ih0 _ _ _ _ _ _ _
      | exact ih1 _ _ _ _ _
      | exact ih2 _ _ _ _ _ _ _
      | exact ih3 _ _ _ _
      | exact ih4 _ _ _ _ _ _
      | exact ih5 _ _ _ _ _
      | exact ih6 _ _ _ _ _ _
      | exact cognatelaw15_awake.mono _
      | exact double_Front.mono _ _ _ _ _
      | exact double_Runs.mono _ _ _ _
      | exact double_Single.mono _ _ _ _ _
      | exact LeO.none _
      | refine LeO.ite ?_ ?_
      | refine LeO.bind ?_ (fun _ => ?_)
    · intro y0 y1 y2 y3 y4
      unfold cognatelaw15_DoubleBack.j4
      repeat' first
      | (with_reducible exact ih0 _ _ _ _ _ _ _)
      | (with_reducible exact ih1 _ _ _ _ _)
      | (with_reducible exact ih2 _ _ _ _ _ _ _)
      | (with_reducible exact ih3 _ _ _ _)
      | (with_reducible exact ih4 _ _ _ _ _ _)
      | (with_reducible exact ih5 _ _ _ _ _)
      | (with_reducible exact ih6 _ _ _ _ _ _)
      | (with_reducible exact cognatelaw15_awake.mono _)
      | (with_reducible exact double_Front.mono _ _ _ _ _)
      | (with_reducible exact double_Runs.mono _ _ _ _)
      | (with_reducible exact double_Single.mono _ _ _ _ _)
      | (with_reducible exact LeO.refl _)
      | (with_reducible exact LeO.none _)
      | (with_reducible refine LeO.ite ?_ ?_)
      | (with_reducible refine LeO.bind ?_ (fun _ => ?_))
      | exact ih0 _ _ _ _ _ _ _
      | exact ih1 _ _ _ _ _
      | exact ih2 _ _ _ _ _ _ _
      | exact ih3 _ _ _ _
      | exact ih4 _ _ _ _ _ _
      | exact ih5 _ _ _ _ _
      | exact ih6 _ _ _ _ _ _
      | exact cognatelaw15_awake.mono _
      | exact double_Front.mono _ _ _ _ _
      | exact double_Runs.mono _ _ _ _
      | exact double_Single.mono _ _ _ _ _
      | exact LeO.none _
      | refine LeO.ite ?_ ?_
      | refine LeO.bind ?_ (fun _ => ?_)
    · intro y0 y1 y2 y3 y4 y5
      unfold cognatelaw15_DoubleBack.j1
      repeat' first
      | (with_reducible exact ih0 _ _ _ _ _ _ _)
      | (with_reducible exact ih1 _ _ _ _ _)
      | (with_reducible exact ih2 _ _ _ _ _ _ _)
      | (with_reducible exact ih3 _ _ _ _)
      | (with_reducible exact ih4 _ _ _ _ _ _)
      | (with_reducible exact ih5 _ _ _ _ _)
      | (with_reducible exact ih6 _ _ _ _ _ _)
      | (with_reducible exact cognatelaw15_awake.mono _)
      | (with_reducible exact double_Front.mono _ _ _ _ _)
      | (with_reducible exact double_Runs.mono _ _ _ _)
      | (with_reducible exact double_Single.mono _ _ _ _ _)
      | (with_reducible exact LeO.refl _)
      | (with_reducible exact LeO.none _)
      | (with_reducible refine LeO.ite ?_ ?_)
      | (with_reducible refine LeO.bind ?_ (fun _ => ?_))
      | exact ih0 _ _ _ _ _ _ _
      | exact ih1 _ _ _ _ _
      | exact ih2 _ _ _ _ _ _ _
      | exact ih3 _ _ _ _
      | exact ih4 _ _ _ _ _ _
      | exact ih5 _ _ _ _ _
      | exact ih6 _ _ _ _ _ _
      | exact cognatelaw15_awake.mono _
      | exact double_Front.mono _ _ _ _ _
      | exact double_Runs.mono _ _ _ _
      | exact double_Single.mono _ _ _ _ _
      | exact LeO.none _
      | refine LeO.ite ?_ ?_
      | refine LeO.bind ?_ (fun _ => ?_)
theorem cognatelaw15_DoubleBack.mono : ∀ a0 a1 a2 a3 k, LeO (cognatelaw15_DoubleBack.f k a0 a1 a2 a3) (cognatelaw15_DoubleBack.f (k + 1) a0 a1 a2 a3) := by
  intro a0 a1 a2 a3 k
  obtain ⟨ih0, ih1, ih2, ih3, ih4, ih5, ih6⟩ := cognatelaw15_DoubleBack.mono_l k
  unfold cognatelaw15_DoubleBack.f
  repeat' first
      | (with_reducible exact ih0 _ _ _ _ _ _ _)
      | (with_reducible exact ih1 _ _ _ _ _)
      | (with_reducible exact ih2 _ _ _ _ _ _ _)
      | (with_reducible exact ih3 _ _ _ _)
      | (with_reducible exact ih4 _ _ _ _ _ _)
      | (with_reducible exact ih5 _ _ _ _ _)
      | (with_reducible exact ih6 _ _ _ _ _ _)
      | (with_reducible exact cognatelaw15_awake.mono _)
      | (with_reducible exact double_Front.mono _ _ _ _ _)
      | (with_reducible exact double_Runs.mono _ _ _ _)
      | (with_reducible exact double_Single.mono _ _ _ _ _)
      | (with_reducible exact LeO.refl _)
      | (with_reducible exact LeO.none _)
      | (with_reducible refine LeO.ite ?_ ?_)
      | (with_reducible refine LeO.bind ?_ (fun _ => ?_))
      | exact ih0 _ _ _ _ _ _ _
      | exact ih1 _ _ _ _ _
      | exact ih2 _ _ _ _ _ _ _
      | exact ih3 _ _ _ _
      | exact ih4 _ _ _ _ _ _
      | exact ih5 _ _ _ _ _
      | exact ih6 _ _ _ _ _ _
      | exact cognatelaw15_awake.mono _
      | exact double_Front.mono _ _ _ _ _
      | exact double_Runs.mono _ _ _ _
      | exact double_Single.mono _ _ _ _ _
      | exact LeO.none _
      | refine LeO.ite ?_ ?_
      | refine LeO.bind ?_ (fun _ => ?_)
set_option maxHeartbeats 8000000 in
set_option maxRecDepth 100000 in
theorem cognatelaw15_DoubleBack.calls (k : Nat) (A0_0 : Option Addr) (c0_0 : Nat) (l0_0 : List ByteArray) (A0_1 : Option Addr) (c0_1 : Nat) (l0_1 : List (S53)) (a1 : ByteArray) (a2 : Int) (r : Bool) (w : World) (hT0 : Tabs w) (hr0_0 : Kd.C Kd.string w A0_0 l0_0.length l0_0) (hc0_0 : l0_0.length ≤ c0_0) (hr0_1 : Kd.C k53 w A0_1 l0_1.length l0_1) (hc0_1 : l0_1.length ≤ c0_1) (h : cognatelaw15_DoubleBack.f k l0_0 l0_1 a1 a2 = some r) :
    Calls Tryd.prog 4 #[.agg #[.slice A0_0 l0_0.length c0_0, .slice A0_1 l0_1.length c0_1], .string a1, .int .i64 a2] w fun e w' => e = .returned (.bool r) ∧ Below w.heap.size w w' := by
  have HT := Aside0.mk hT0
  clear hT0
  have hu25 := Tryd.underlying25
  have hu35 := Tryd.underlying35
  have HR0_0 := Aside0.mk hr0_0
  have HC0_0 := Aside0.mk hc0_0
  clear hr0_0 hc0_0
  have HR0_1 := Aside0.mk hr0_1
  have HC0_1 := Aside0.mk hc0_1
  clear hr0_1 hc0_1
  have HB := Aside0.mk (Below.refl w.heap.size w)
  have H : ((cognatelaw15_awake.f k).bind fun t260 => (if t260 = true then ((word_Letters.f l0_0 l0_1 a1).bind fun bt261 => (if bt261.2 = 0 then ((double_Front.f k l0_0 l0_1 a1 a2).bind fun bt270 => (if bt270.2 = 0 then (if a2 > 0 then (cognatelaw15_DoubleBack.j0 k a1 a2 bt261.1 bt270.1 (decide ((wrap64 ((bt261.1.length : Int) + a2)) ≤ 64)) l0_0 l0_1) else (cognatelaw15_DoubleBack.j0 k a1 a2 bt261.1 bt270.1 false l0_0 l0_1)) else (cognatelaw15_DoubleBack.j0 k a1 a2 bt261.1 bt270.1 false l0_0 l0_1))) else ((double_Front.f k l0_0 l0_1 a1 a2).bind fun bt265 => ((double_Single.f k l0_0 l0_1 a1 a2).bind fun bt267 => (if bt265.2 = bt261.2 then (some (bt267.2.2 == bt261.2)) else (some false)))))) else (some false))) = some r := h
  clear h
  replace H := Option.bind_eq_some_iff.mp H
  obtain ⟨t260, A40, H⟩ := H
  replace H : (if t260 = true then ((word_Letters.f l0_0 l0_1 a1).bind fun bt261 => (if bt261.2 = 0 then ((double_Front.f k l0_0 l0_1 a1 a2).bind fun bt270 => (if bt270.2 = 0 then (if a2 > 0 then (cognatelaw15_DoubleBack.j0 k a1 a2 bt261.1 bt270.1 (decide ((wrap64 ((bt261.1.length : Int) + a2)) ≤ 64)) l0_0 l0_1) else (cognatelaw15_DoubleBack.j0 k a1 a2 bt261.1 bt270.1 false l0_0 l0_1)) else (cognatelaw15_DoubleBack.j0 k a1 a2 bt261.1 bt270.1 false l0_0 l0_1))) else ((double_Front.f k l0_0 l0_1 a1 a2).bind fun bt265 => ((double_Single.f k l0_0 l0_1 a1 a2).bind fun bt267 => (if bt265.2 = bt261.2 then (some (bt267.2.2 == bt261.2)) else (some false)))))) else (some false)) = some r := H
  have A4 := Aside0.mk A40
  clear A40
  by_cases c5 : t260 = true
  · as_aux_lemma =>
     subst c5
     have H1 : ((word_Letters.f l0_0 l0_1 a1).bind fun bt261 => (if bt261.2 = 0 then ((double_Front.f k l0_0 l0_1 a1 a2).bind fun bt270 => (if bt270.2 = 0 then (if a2 > 0 then (cognatelaw15_DoubleBack.j0 k a1 a2 bt261.1 bt270.1 (decide ((wrap64 ((bt261.1.length : Int) + a2)) ≤ 64)) l0_0 l0_1) else (cognatelaw15_DoubleBack.j0 k a1 a2 bt261.1 bt270.1 false l0_0 l0_1)) else (cognatelaw15_DoubleBack.j0 k a1 a2 bt261.1 bt270.1 false l0_0 l0_1))) else ((double_Front.f k l0_0 l0_1 a1 a2).bind fun bt265 => ((double_Single.f k l0_0 l0_1 a1 a2).bind fun bt267 => (if bt265.2 = bt261.2 then (some (bt267.2.2 == bt261.2)) else (some false)))))) = some r := by rw [if_pos rfl] at H; exact H
     clear H
     have H := H1
     clear H1
     replace H := Option.bind_eq_some_iff.mp H
     obtain ⟨⟨t261, t264⟩, A60, H⟩ := H
     replace H : (if t264 = 0 then ((double_Front.f k l0_0 l0_1 a1 a2).bind fun bt270 => (if bt270.2 = 0 then (if a2 > 0 then (cognatelaw15_DoubleBack.j0 k a1 a2 t261 bt270.1 (decide ((wrap64 ((t261.length : Int) + a2)) ≤ 64)) l0_0 l0_1) else (cognatelaw15_DoubleBack.j0 k a1 a2 t261 bt270.1 false l0_0 l0_1)) else (cognatelaw15_DoubleBack.j0 k a1 a2 t261 bt270.1 false l0_0 l0_1))) else ((double_Front.f k l0_0 l0_1 a1 a2).bind fun bt265 => ((double_Single.f k l0_0 l0_1 a1 a2).bind fun bt267 => (if bt265.2 = t264 then (some (bt267.2.2 == t264)) else (some false))))) = some r := H
     have A6 := Aside0.mk A60
     clear A60
     by_cases c7 : t264 = 0
     · as_aux_lemma =>
        rw [if_pos c7] at H
        have c7b0 : (t264 == 0) = true := beq_iff_eq.mpr c7
        have c7b1 : (t264 != 0) = false := bne_eq_false_iff_eq.mpr c7
        clear c7
        replace H := Option.bind_eq_some_iff.mp H
        obtain ⟨⟨t270, t271⟩, A80, H⟩ := H
        replace H : (if t271 = 0 then (if a2 > 0 then (cognatelaw15_DoubleBack.j0 k a1 a2 t261 t270 (decide ((wrap64 ((t261.length : Int) + a2)) ≤ 64)) l0_0 l0_1) else (cognatelaw15_DoubleBack.j0 k a1 a2 t261 t270 false l0_0 l0_1)) else (cognatelaw15_DoubleBack.j0 k a1 a2 t261 t270 false l0_0 l0_1)) = some r := H
        have A8 := Aside0.mk A80
        clear A80
        have HC9 := Aside0.mk H
        clear H
        go_enter Tryd.func4, Tryd.ntmps4
        go_upto_region 10 with (first | ((with_reducible refine gate_dst (N := 3) rfl ?_); (try (refine gate_guard (by rfl) ?_; dsimp only)); refine box_event ?hg (N := 3) ?hd (cs := #[.slice A0_0 l0_0.length c0_0, .slice A0_1 l0_1.length c0_1]) (t := 25) ?hr ?_; (case hd => rfl); (case hg => rfl); (case hr => first | (go_simp; done) | (go_simp; rfl)); intro gb259 hg w10 hbox hb; have n0_ := Aside0.mk (below_step (by repeat (first | (with_reducible first | exact HB.out | apply below_alloc | apply pw_below_drewN | apply below_drew1) | exact HB.out)) hb); have n1_ := Aside0.mk (hbox); have n2_ := Aside0.mk ((by rw [hg]; exact (below_size (by repeat (first | (with_reducible first | exact HB.out | apply below_alloc | apply pw_below_drewN | apply below_drew1) | exact HB.out))) : w.heap.size ≤ gb259)); have n3_ := Aside0.mk ((by rw [hg]; exact (below_size (by repeat (first | (with_reducible first | exact HB.out | apply below_alloc | apply pw_below_drewN | apply below_drew1) | exact HB.out))) : w.heap.size ≤ gb259)); clear HB; have HB := n0_; have BK259 := n1_; have GW259 := n2_; have GE259 := n3_; clear n0_ n1_ n2_ n3_; clear hb hbox hg) | ((with_reducible refine gate_callee (f := 14) rfl ?_); refine goesL_ (some 32) rfl rfl Tryd.func14 (by kernel_rfl) rfl #[] rfl (by (try simp only [List.map_toArray, List.map_cons, List.map_nil]); first | done | rfl | (simp only [List.length_drop, List.length_take]; rfl)) ?_; (with_reducible refine (cognatelaw15_awake.calls k  true _ ?side1 A4.out).mono ?_); (case side1 => exact Tabs.below HT.out (by repeat (first | (with_reducible first | exact HB.out | apply below_alloc | apply pw_below_drewN | apply below_drew1 | refine below_set ?_ GE259.out) | exact HB.out))); rintro e w11 ⟨rfl, hb⟩; refine ⟨_, rfl, ?_⟩; have n0_ := Aside0.mk (blk_below (g := gb259) (o := .cells #[.slice A0_0 l0_0.length c0_0, .slice A0_1 l0_1.length c0_1] 25 (0, 0)) (by (with_reducible repeat (first | refine blk_drewN ?_ _ | refine blk_drew ?_ | refine blk_alloc ?_ _)); exact BK259.out) hb); have n1_ := Aside0.mk (below_step (by repeat (first | (with_reducible first | exact HB.out | apply below_alloc | apply pw_below_drewN | apply below_drew1 | refine below_set ?_ GE259.out) | exact HB.out)) hb); clear BK259; clear HB; have BK259 := n0_; have HB := n1_; clear n0_ n1_; (try clear hb); (try clear hb2); (try clear hk); (try clear hi); have hcz12_0 : w11.cell? ⟨gb259, 0, none⟩ = some (.slice A0_0 l0_0.length c0_0) := (blk_cell BK259.out 0).trans rfl; have hcz12_1 : w11.cell? ⟨gb259, 1, none⟩ = some (.slice A0_1 l0_1.length c0_1) := (blk_cell BK259.out 1).trans rfl; have hfz12_0 := blk_frozen BK259.out 0; have hfz12_1 := blk_frozen BK259.out 1) | ((with_reducible refine gate_callee (f := 20) rfl ?_); refine goesL_ (some 38) rfl rfl Tryd.func20 (by kernel_rfl) rfl #[.agg #[.slice A0_0 l0_0.length c0_0, .slice A0_1 l0_1.length c0_1], .string a1] rfl (by (try simp only [List.map_toArray, List.map_cons, List.map_nil]); first | done | rfl | (simp only [List.length_drop, List.length_take]; rfl)) ?_; (with_reducible refine (word_Letters.calls _ _ l0_0 _ _ l0_1 a1 t261 t264 _ ?side5 ?side1 ?side2 ?side3 ?side4 A6.out).mono ?_); (case side1 => repeat (first | exact (Kd.C_below HR0_0.out HB.out) | (with_reducible refine Kd.C_alloc ?_ _) | (with_reducible refine Kd.C_drewN ?_ _) | (with_reducible refine Kd.C_drew ?_))); (case side2 => exact HC0_0.out); (case side3 => repeat (first | exact (Kd.C_below HR0_1.out HB.out) | (with_reducible refine Kd.C_alloc ?_ _) | (with_reducible refine Kd.C_drewN ?_ _) | (with_reducible refine Kd.C_drew ?_))); (case side4 => exact HC0_1.out); (case side5 => exact Tabs.below HT.out (by repeat (first | (with_reducible first | exact HB.out | apply below_alloc | apply pw_below_drewN | apply below_drew1 | refine below_set ?_ GE259.out) | exact HB.out))); rintro e w13 ⟨v262, rfl, ho0, hb⟩; refine ⟨_, rfl, ?_⟩; have n0_ := Aside0.mk (Kd.R_lower ho0 (below_size (by repeat (first | (with_reducible first | exact HB.out | apply below_alloc | apply pw_below_drewN | apply below_drew1 | refine below_set ?_ GE259.out) | exact HB.out)))); have n1_ := Aside0.mk (blk_below (g := gb259) (o := .cells #[.slice A0_0 l0_0.length c0_0, .slice A0_1 l0_1.length c0_1] 25 (0, 0)) (by (with_reducible repeat (first | refine blk_drewN ?_ _ | refine blk_drew ?_ | refine blk_alloc ?_ _)); exact BK259.out) hb); have n2_ := Aside0.mk (below_step (by repeat (first | (with_reducible first | exact HB.out | apply below_alloc | apply pw_below_drewN | apply below_drew1 | refine below_set ?_ GE259.out) | exact HB.out)) hb); clear BK259; clear HB; have HO263 := n0_; have BK259 := n1_; have HB := n2_; clear n0_ n1_ n2_; (try clear hb); (try clear hb2); (try clear hk); (try clear hi); (try clear ho0); have hcz14_0 : w13.cell? ⟨gb259, 0, none⟩ = some (.slice A0_0 l0_0.length c0_0) := (blk_cell BK259.out 0).trans rfl; have hcz14_1 : w13.cell? ⟨gb259, 1, none⟩ = some (.slice A0_1 l0_1.length c0_1) := (blk_cell BK259.out 1).trans rfl; have hfz14_0 := blk_frozen BK259.out 0; have hfz14_1 := blk_frozen BK259.out 1) | ((with_reducible refine gate_callee (f := 21) rfl ?_); refine goesL_ (some 70) rfl rfl Tryd.func21 (by kernel_rfl) rfl #[.agg #[.slice A0_0 l0_0.length c0_0, .slice A0_1 l0_1.length c0_1], .string a1, .int .i64 a2] rfl (by (try simp only [List.map_toArray, List.map_cons, List.map_nil]); first | done | rfl | (simp only [List.length_drop, List.length_take]; rfl)) ?_; (with_reducible refine (double_Front.calls k _ _ l0_0 _ _ l0_1 a1 a2 t270 t271 _ ?side5 ?side1 ?side2 ?side3 ?side4 A8.out).mono ?_); (case side1 => repeat (first | exact (Kd.C_below HR0_0.out HB.out) | (with_reducible refine Kd.C_alloc ?_ _) | (with_reducible refine Kd.C_drewN ?_ _) | (with_reducible refine Kd.C_drew ?_))); (case side2 => exact HC0_0.out); (case side3 => repeat (first | exact (Kd.C_below HR0_1.out HB.out) | (with_reducible refine Kd.C_alloc ?_ _) | (with_reducible refine Kd.C_drewN ?_ _) | (with_reducible refine Kd.C_drew ?_))); (case side4 => exact HC0_1.out); (case side5 => exact Tabs.below HT.out (by repeat (first | (with_reducible first | exact HB.out | apply below_alloc | apply pw_below_drewN | apply below_drew1 | refine below_set ?_ GE259.out) | exact HB.out))); rintro e w15 ⟨rfl, hb⟩; refine ⟨_, rfl, ?_⟩; have n0_ := Aside0.mk (Kd.R_below (by (with_reducible repeat (first | apply Kd.R_alloc | apply Kd.R_drewN | apply Kd.R_drew)); exact HO263.out) hb); have n1_ := Aside0.mk (blk_below (g := gb259) (o := .cells #[.slice A0_0 l0_0.length c0_0, .slice A0_1 l0_1.length c0_1] 25 (0, 0)) (by (with_reducible repeat (first | refine blk_drewN ?_ _ | refine blk_drew ?_ | refine blk_alloc ?_ _)); exact BK259.out) hb); have n2_ := Aside0.mk (below_step (by repeat (first | (with_reducible first | exact HB.out | apply below_alloc | apply pw_below_drewN | apply below_drew1 | refine below_set ?_ GE259.out) | exact HB.out)) hb); clear HO263; clear BK259; clear HB; have HO263 := n0_; have BK259 := n1_; have HB := n2_; clear n0_ n1_ n2_; (try clear hb); (try clear hb2); (try clear hk); (try clear hi)))
        (try simp only [Act.put, List.setIfInBounds_toArray, List.set_cons_zero, List.set_cons_succ])
        go_cut [85] (fun v85 wc => ∃ (kq : Nat) (x85_8 : Bool), v85 = .bool x85_8 ∧ Aside0 (cognatelaw15_DoubleBack.j0 kq a1 a2 t261 t270 x85_8 l0_0 l0_1 = some r) ∧ Aside0 (kq ≤ k) ∧ Aside0 (Kd.R (Kd.int .i32) 21 wc w.heap.size (fun _ => True) v262 t261) ∧ Aside0 (wc.heap[gb259]? = some (.cells #[(.slice A0_0 l0_0.length c0_0), (.slice A0_1 l0_1.length c0_1)] 25 (0, 0))) ∧ Aside0 (Below w.heap.size w wc))
        case first =>
          as_aux_lemma =>
           have H := HC9.out
           clear HC9
           by_cases c16 : t271 = 0
           · as_aux_lemma =>
              rw [if_pos c16] at H
              have c16b0 : (t271 == 0) = true := beq_iff_eq.mpr c16
              have c16b1 : (t271 != 0) = false := bne_eq_false_iff_eq.mpr c16
              clear c16
              (first | rw [c16b0] | (simp only [i64_w, i32_w]; rw [c16b0]) | skip)
              by_cases c17 : a2 > 0
              · as_aux_lemma =>
                 rw [if_pos c17] at H
                 have c17b0 : decide (0 < a2) = true := decide_eq_true c17
                 clear c17
                 have H' := Aside0.mk H
                 clear H
                 obtain ⟨Ao18, co18, eo18⟩ := Kd.R_slice HO263.out
                 subst eo18
                 go_wp2
                 go_meet
                 case rel => exact ⟨_, (decide ((wrap64 ((t261.length : Int) + a2)) ≤ 64)), (by first | rfl | (simp; done) | (simp [*]; done)), H', ⟨by first | omega | exact Nat.le_refl _⟩, ⟨by (with_reducible repeat (first | apply Kd.R_alloc | apply Kd.R_drewN | apply Kd.R_drew)); exact HO263.out⟩, ⟨by (with_reducible repeat (first | refine blk_drewN ?_ _ | refine blk_drew ?_ | refine blk_alloc ?_ _)); exact BK259.out⟩, ⟨by repeat (first | (with_reducible first | exact HB.out | apply below_alloc | apply pw_below_drewN | apply below_drew1 | refine below_set ?_ GE259.out) | exact HB.out)⟩⟩
              · as_aux_lemma =>
                 rw [if_neg c17] at H
                 have c17b0 : decide (0 < a2) = false := decide_eq_false c17
                 clear c17
                 have H' := Aside0.mk H
                 clear H
                 go_wp2
                 go_meet
                 case rel => exact ⟨_, (false), (by first | rfl | (simp; done) | (simp [*]; done)), H', ⟨by first | omega | exact Nat.le_refl _⟩, ⟨by (with_reducible repeat (first | apply Kd.R_alloc | apply Kd.R_drewN | apply Kd.R_drew)); exact HO263.out⟩, ⟨by (with_reducible repeat (first | refine blk_drewN ?_ _ | refine blk_drew ?_ | refine blk_alloc ?_ _)); exact BK259.out⟩, ⟨by repeat (first | (with_reducible first | exact HB.out | apply below_alloc | apply pw_below_drewN | apply below_drew1 | refine below_set ?_ GE259.out) | exact HB.out)⟩⟩
           · as_aux_lemma =>
              rw [if_neg c16] at H
              have c16b0 : (t271 == 0) = false := beq_eq_false_iff_ne.mpr c16
              have c16b1 : (t271 != 0) = true := bne_iff_ne.mpr c16
              (first | rw [c16b0] | (simp only [i64_w, i32_w]; rw [c16b0]) | skip)
              have H' := Aside0.mk H
              clear H
              go_wp2
              go_meet
              case rel => exact ⟨_, (false), (by first | rfl | (simp; done) | (simp [*]; done)), H', ⟨by first | omega | exact Nat.le_refl _⟩, ⟨by (with_reducible repeat (first | apply Kd.R_alloc | apply Kd.R_drewN | apply Kd.R_drew)); exact HO263.out⟩, ⟨by (with_reducible repeat (first | refine blk_drewN ?_ _ | refine blk_drew ?_ | refine blk_alloc ?_ _)); exact BK259.out⟩, ⟨by repeat (first | (with_reducible first | exact HB.out | apply below_alloc | apply pw_below_drewN | apply below_drew1 | refine below_set ?_ GE259.out) | exact HB.out)⟩⟩
        case rest =>
          as_aux_lemma =>
           clear HC9
           try clear c1
           try clear c2
           try clear p2
           try clear c4
           try clear c5
           try clear p6
           try clear c7
           try clear c7b0
           try clear c7b1
           try clear c14
           try clear c16
           try clear c16b0
           try clear c16b1
           try clear c17
           try clear c17b0
           try clear hcz12_0
           try clear hcz12_1
           try clear hcz14_0
           try clear hcz14_1
           try clear hfz12_0
           try clear hfz12_1
           try clear hfz14_0
           try clear hfz14_1
           obtain ⟨kq, x85_8, rfl, HA, HJ8, HO_8, BK259, HB⟩ := hcut
           cases kq with
           | zero => exact absurd HA.out (by simp [cognatelaw15_DoubleBack.j0])
           | succ kj8 =>
             have H := HA.out
             clear HA
             simp only [cognatelaw15_DoubleBack.j0] at H
             have HC19 := Aside0.mk H
             clear H
             go_upto_if 85 with (fail)
             go_cut [] (fun wc => ∃ (kq : Nat), Aside0 (cognatelaw15_DoubleBack.j2 kq a1 a2 t261 l0_0 l0_1 = some r) ∧ Aside0 (kq ≤ kj8) ∧ Aside0 (Kd.R (Kd.int .i32) 21 wc w.heap.size (fun _ => True) v262 t261) ∧ Aside0 (wc.heap[gb259]? = some (.cells #[(.slice A0_0 l0_0.length c0_0), (.slice A0_1 l0_1.length c0_1)] 25 (0, 0))) ∧ Aside0 (Below w.heap.size w wc))
             case first =>
               as_aux_lemma =>
                have H := HC19.out
                clear HC19
                by_cases c20 : x85_8 = true
                · as_aux_lemma =>
                   subst c20
                   have H1 : ((double_Single.f kj8 l0_0 l0_1 t270 a2).bind fun bt272 => (if bt272.2.2 = 0 then (if bt272.2.1 = true then (cognatelaw15_DoubleBack.j1 kj8 a1 a2 t261 (bt272.1.toList != a1.toList) l0_0 l0_1) else (cognatelaw15_DoubleBack.j1 kj8 a1 a2 t261 true l0_0 l0_1)) else (cognatelaw15_DoubleBack.j1 kj8 a1 a2 t261 true l0_0 l0_1))) = some r := by rw [if_pos rfl] at H; exact H
                   clear H
                   have H := H1
                   clear H1
                   replace H := Option.bind_eq_some_iff.mp H
                   obtain ⟨⟨t272, t273, t274⟩, A210, H⟩ := H
                   replace H : (if t274 = 0 then (if t273 = true then (cognatelaw15_DoubleBack.j1 kj8 a1 a2 t261 (t272.toList != a1.toList) l0_0 l0_1) else (cognatelaw15_DoubleBack.j1 kj8 a1 a2 t261 true l0_0 l0_1)) else (cognatelaw15_DoubleBack.j1 kj8 a1 a2 t261 true l0_0 l0_1)) = some r := H
                   have A21 := Aside0.mk A210
                   clear A210
                   have HC22 := Aside0.mk H
                   clear H
                   have hcz23_0 : wc.cell? ⟨gb259, 0, none⟩ = some (.slice A0_0 l0_0.length c0_0) := (blk_cell BK259.out 0).trans rfl
                   have hcz23_1 : wc.cell? ⟨gb259, 1, none⟩ = some (.slice A0_1 l0_1.length c0_1) := (blk_cell BK259.out 1).trans rfl
                   have hfz23_0 := blk_frozen BK259.out 0
                   have hfz23_1 := blk_frozen BK259.out 1
                   go_upto_region 12 with (first | ((with_reducible refine gate_callee (f := 22) rfl ?_); refine goesL_ (some 90) rfl rfl Tryd.func22 (by kernel_rfl) rfl #[.agg #[.slice A0_0 l0_0.length c0_0, .slice A0_1 l0_1.length c0_1], .string t270, .int .i64 a2] rfl (by (try simp only [List.map_toArray, List.map_cons, List.map_nil]); first | done | rfl | (simp only [List.length_drop, List.length_take]; rfl)) ?_; (with_reducible refine (double_Single.calls kj8 _ _ l0_0 _ _ l0_1 t270 a2 t272 t273 t274 _ ?side5 ?side1 ?side2 ?side3 ?side4 A21.out).mono ?_); (case side1 => repeat (first | exact (Kd.C_below HR0_0.out HB.out) | (with_reducible refine Kd.C_alloc ?_ _) | (with_reducible refine Kd.C_drewN ?_ _) | (with_reducible refine Kd.C_drew ?_))); (case side2 => exact HC0_0.out); (case side3 => repeat (first | exact (Kd.C_below HR0_1.out HB.out) | (with_reducible refine Kd.C_alloc ?_ _) | (with_reducible refine Kd.C_drewN ?_ _) | (with_reducible refine Kd.C_drew ?_))); (case side4 => exact HC0_1.out); (case side5 => exact Tabs.below HT.out (by repeat (first | (with_reducible first | exact HB.out | apply below_alloc | apply pw_below_drewN | apply below_drew1 | refine below_set ?_ GE259.out) | exact HB.out))); rintro e w24 ⟨rfl, hb⟩; refine ⟨_, rfl, ?_⟩; have n0_ := Aside0.mk (Kd.R_below (by (with_reducible repeat (first | apply Kd.R_alloc | apply Kd.R_drewN | apply Kd.R_drew)); exact HO_8.out) hb); have n1_ := Aside0.mk (blk_below (g := gb259) (o := .cells #[.slice A0_0 l0_0.length c0_0, .slice A0_1 l0_1.length c0_1] 25 (0, 0)) (by (with_reducible repeat (first | refine blk_drewN ?_ _ | refine blk_drew ?_ | refine blk_alloc ?_ _)); exact BK259.out) hb); have n2_ := Aside0.mk (below_step (by repeat (first | (with_reducible first | exact HB.out | apply below_alloc | apply pw_below_drewN | apply below_drew1 | refine below_set ?_ GE259.out) | exact HB.out)) hb); clear HO_8; clear BK259; clear HB; have HO_8 := n0_; have BK259 := n1_; have HB := n2_; clear n0_ n1_ n2_; (try clear hb); (try clear hb2); (try clear hk); (try clear hi)))
                   (try simp only [Act.put, List.setIfInBounds_toArray, List.set_cons_zero, List.set_cons_succ])
                   go_cut [104] (fun v104 wc => ∃ (kq : Nat) (x104_21 : Bool), v104 = .bool x104_21 ∧ Aside0 (cognatelaw15_DoubleBack.j1 kq a1 a2 t261 x104_21 l0_0 l0_1 = some r) ∧ Aside0 (kq ≤ kj8) ∧ Aside0 (Kd.R (Kd.int .i32) 21 wc w.heap.size (fun _ => True) v262 t261) ∧ Aside0 (wc.heap[gb259]? = some (.cells #[(.slice A0_0 l0_0.length c0_0), (.slice A0_1 l0_1.length c0_1)] 25 (0, 0))) ∧ Aside0 (Below w.heap.size w wc))
                   case first =>
                     as_aux_lemma =>
                      have H := HC22.out
                      clear HC22
                      by_cases c25 : t274 = 0
                      · as_aux_lemma =>
                         rw [if_pos c25] at H
                         have c25b0 : (t274 == 0) = true := beq_iff_eq.mpr c25
                         have c25b1 : (t274 != 0) = false := bne_eq_false_iff_eq.mpr c25
                         clear c25
                         (first | rw [c25b0] | (simp only [i64_w, i32_w]; rw [c25b0]) | skip)
                         by_cases c26 : t273 = true
                         · as_aux_lemma =>
                            subst c26
                            have H1 : (cognatelaw15_DoubleBack.j1 kj8 a1 a2 t261 (t272.toList != a1.toList) l0_0 l0_1) = some r := by rw [if_pos rfl] at H; exact H
                            clear H
                            have H := H1
                            clear H1
                            have H' := Aside0.mk H
                            clear H
                            go_wp2
                            go_meet
                            case rel => exact ⟨_, ((t272.toList != a1.toList)), (by first | rfl | (simp; done) | (simp [*]; done)), H', ⟨by have := HJ8.out; first | omega | exact Nat.le_refl _⟩, ⟨by (with_reducible repeat (first | apply Kd.R_alloc | apply Kd.R_drewN | apply Kd.R_drew)); exact HO_8.out⟩, ⟨by (with_reducible repeat (first | refine blk_drewN ?_ _ | refine blk_drew ?_ | refine blk_alloc ?_ _)); exact BK259.out⟩, ⟨by repeat (first | (with_reducible first | exact HB.out | apply below_alloc | apply pw_below_drewN | apply below_drew1 | refine below_set ?_ GE259.out) | exact HB.out)⟩⟩
                         · as_aux_lemma =>
                            replace c26 := Bool.eq_false_iff.mpr c26
                            subst c26
                            have H1 : (cognatelaw15_DoubleBack.j1 kj8 a1 a2 t261 true l0_0 l0_1) = some r := by rw [if_neg (show ¬ (false = true) by decide)] at H; exact H
                            clear H
                            have H := H1
                            clear H1
                            have H' := Aside0.mk H
                            clear H
                            go_wp2
                            go_meet
                            case rel => exact ⟨_, (true), (by first | rfl | (simp; done) | (simp [*]; done)), H', ⟨by have := HJ8.out; first | omega | exact Nat.le_refl _⟩, ⟨by (with_reducible repeat (first | apply Kd.R_alloc | apply Kd.R_drewN | apply Kd.R_drew)); exact HO_8.out⟩, ⟨by (with_reducible repeat (first | refine blk_drewN ?_ _ | refine blk_drew ?_ | refine blk_alloc ?_ _)); exact BK259.out⟩, ⟨by repeat (first | (with_reducible first | exact HB.out | apply below_alloc | apply pw_below_drewN | apply below_drew1 | refine below_set ?_ GE259.out) | exact HB.out)⟩⟩
                      · as_aux_lemma =>
                         rw [if_neg c25] at H
                         have c25b0 : (t274 == 0) = false := beq_eq_false_iff_ne.mpr c25
                         have c25b1 : (t274 != 0) = true := bne_iff_ne.mpr c25
                         (first | rw [c25b0] | (simp only [i64_w, i32_w]; rw [c25b0]) | skip)
                         have H' := Aside0.mk H
                         clear H
                         go_wp2
                         go_meet
                         case rel => exact ⟨_, (true), (by first | rfl | (simp; done) | (simp [*]; done)), H', ⟨by have := HJ8.out; first | omega | exact Nat.le_refl _⟩, ⟨by (with_reducible repeat (first | apply Kd.R_alloc | apply Kd.R_drewN | apply Kd.R_drew)); exact HO_8.out⟩, ⟨by (with_reducible repeat (first | refine blk_drewN ?_ _ | refine blk_drew ?_ | refine blk_alloc ?_ _)); exact BK259.out⟩, ⟨by repeat (first | (with_reducible first | exact HB.out | apply below_alloc | apply pw_below_drewN | apply below_drew1 | refine below_set ?_ GE259.out) | exact HB.out)⟩⟩
                   case rest =>
                     as_aux_lemma =>
                      clear HC22
                      try clear c1
                      try clear c2
                      try clear p2
                      try clear c4
                      try clear c5
                      try clear p6
                      try clear c7
                      try clear c7b0
                      try clear c7b1
                      try clear c14
                      try clear c16
                      try clear c16b0
                      try clear c16b1
                      try clear c17
                      try clear c17b0
                      try clear c20
                      try clear c21
                      try clear c22
                      try clear c25
                      try clear c25b0
                      try clear c25b1
                      try clear c26
                      try clear hcz12_0
                      try clear hcz12_1
                      try clear hcz14_0
                      try clear hcz14_1
                      try clear hcz23_0
                      try clear hcz23_1
                      try clear hfz12_0
                      try clear hfz12_1
                      try clear hfz14_0
                      try clear hfz14_1
                      try clear hfz23_0
                      try clear hfz23_1
                      try clear p2
                      try clear p6
                      obtain ⟨kq, x104_21, rfl, HA, HJ21, HO_8, BK259, HB⟩ := hcut
                      cases kq with
                      | zero => exact absurd HA.out (by simp [cognatelaw15_DoubleBack.j1])
                      | succ kj21 =>
                        have H := HA.out
                        clear HA
                        simp only [cognatelaw15_DoubleBack.j1] at H
                        by_cases c27 : x104_21 = true
                        · as_aux_lemma =>
                           subst c27
                           have H1 : (some false) = some r := by rw [if_pos rfl] at H; exact H
                           clear H
                           have H := H1
                           clear H1
                           obtain rfl := Option.some.inj H
                           go_wp2
                           go_ret
                           exact ⟨by first | rfl | (simp [errW_none, errW_some] <;> rfl) | (simp [*, errW_none, errW_some] <;> rfl), by repeat (first | (with_reducible first | exact HB.out | apply below_alloc | apply pw_below_drewN | apply below_drew1 | refine below_set ?_ GE259.out) | exact HB.out)⟩
                        · as_aux_lemma =>
                           replace c27 := Bool.eq_false_iff.mpr c27
                           subst c27
                           have H1 : (cognatelaw15_DoubleBack.j2 kj21 a1 a2 t261 l0_0 l0_1) = some r := by rw [if_neg (show ¬ (false = true) by decide)] at H; exact H
                           clear H
                           have H := H1
                           clear H1
                           have H' := Aside0.mk H
                           clear H
                           go_wp2
                           go_meet
                           case rel => exact ⟨_, H', ⟨by have := HJ8.out; have := HJ21.out; first | omega | exact Nat.le_refl _⟩, ⟨by (with_reducible repeat (first | apply Kd.R_alloc | apply Kd.R_drewN | apply Kd.R_drew)); exact HO_8.out⟩, ⟨by (with_reducible repeat (first | refine blk_drewN ?_ _ | refine blk_drew ?_ | refine blk_alloc ?_ _)); exact BK259.out⟩, ⟨by repeat (first | (with_reducible first | exact HB.out | apply below_alloc | apply pw_below_drewN | apply below_drew1 | refine below_set ?_ GE259.out) | exact HB.out)⟩⟩
                · as_aux_lemma =>
                   replace c20 := Bool.eq_false_iff.mpr c20
                   subst c20
                   have H1 : (cognatelaw15_DoubleBack.j2 kj8 a1 a2 t261 l0_0 l0_1) = some r := by rw [if_neg (show ¬ (false = true) by decide)] at H; exact H
                   clear H
                   have H := H1
                   clear H1
                   have H' := Aside0.mk H
                   clear H
                   go_wp2
                   go_meet
                   case rel => exact ⟨_, H', ⟨by have := HJ8.out; first | omega | exact Nat.le_refl _⟩, ⟨by (with_reducible repeat (first | apply Kd.R_alloc | apply Kd.R_drewN | apply Kd.R_drew)); exact HO_8.out⟩, ⟨by (with_reducible repeat (first | refine blk_drewN ?_ _ | refine blk_drew ?_ | refine blk_alloc ?_ _)); exact BK259.out⟩, ⟨by repeat (first | (with_reducible first | exact HB.out | apply below_alloc | apply pw_below_drewN | apply below_drew1 | refine below_set ?_ GE259.out) | exact HB.out)⟩⟩
             case rest =>
               as_aux_lemma =>
                clear HC19
                try clear c1
                try clear c2
                try clear p2
                try clear c4
                try clear c5
                try clear p6
                try clear c7
                try clear c7b0
                try clear c7b1
                try clear c14
                try clear c16
                try clear c16b0
                try clear c16b1
                try clear c17
                try clear c17b0
                try clear c20
                try clear c21
                try clear c22
                try clear c25
                try clear c25b0
                try clear c25b1
                try clear c26
                try clear c27
                try clear hcz12_0
                try clear hcz12_1
                try clear hcz14_0
                try clear hcz14_1
                try clear hcz23_0
                try clear hcz23_1
                try clear hfz12_0
                try clear hfz12_1
                try clear hfz14_0
                try clear hfz14_1
                try clear hfz23_0
                try clear hfz23_1
                try clear p2
                try clear p6
                obtain ⟨kq, HA, HJ18, HO_8, BK259, HB⟩ := hcut
                cases kq with
                | zero => exact absurd HA.out (by simp [cognatelaw15_DoubleBack.j2])
                | succ kj18 =>
                  have H := HA.out
                  clear HA
                  simp only [cognatelaw15_DoubleBack.j2] at H
                  replace H := Option.bind_eq_some_iff.mp H
                  obtain ⟨⟨t275, t276⟩, A280, H⟩ := H
                  replace H : (if t276 = 0 then (if (t261.length : Int) > 0 then (cognatelaw15_DoubleBack.j3 kj18 a1 a2 t261 t275 (decide ((wrap64 (2 * (t261.length : Int))) ≤ 64)) l0_0 l0_1) else (cognatelaw15_DoubleBack.j3 kj18 a1 a2 t261 t275 false l0_0 l0_1)) else (some false)) = some r := H
                  have A28 := Aside0.mk A280
                  clear A280
                  by_cases c29 : t276 = 0
                  · as_aux_lemma =>
                     rw [if_pos c29] at H
                     have c29b0 : (t276 == 0) = true := beq_iff_eq.mpr c29
                     have c29b1 : (t276 != 0) = false := bne_eq_false_iff_eq.mpr c29
                     clear c29
                     have HC30 := Aside0.mk H
                     clear H
                     have hcz31_0 : wc.cell? ⟨gb259, 0, none⟩ = some (.slice A0_0 l0_0.length c0_0) := (blk_cell BK259.out 0).trans rfl
                     have hcz31_1 : wc.cell? ⟨gb259, 1, none⟩ = some (.slice A0_1 l0_1.length c0_1) := (blk_cell BK259.out 1).trans rfl
                     have hfz31_0 := blk_frozen BK259.out 0
                     have hfz31_1 := blk_frozen BK259.out 1
                     go_upto_region 17 with (first | ((with_reducible refine gate_callee (f := 23) rfl ?_); refine goesL_ (some 108) rfl rfl Tryd.func23 (by kernel_rfl) rfl #[.agg #[.slice A0_0 l0_0.length c0_0, .slice A0_1 l0_1.length c0_1], .string a1] rfl (by (try simp only [List.map_toArray, List.map_cons, List.map_nil]); first | done | rfl | (simp only [List.length_drop, List.length_take]; rfl)) ?_; (with_reducible refine (double_Whole.calls _ _ l0_0 _ _ l0_1 a1 t275 t276 _ ?side5 ?side1 ?side2 ?side3 ?side4 A28.out).mono ?_); (case side1 => repeat (first | exact (Kd.C_below HR0_0.out HB.out) | (with_reducible refine Kd.C_alloc ?_ _) | (with_reducible refine Kd.C_drewN ?_ _) | (with_reducible refine Kd.C_drew ?_))); (case side2 => exact HC0_0.out); (case side3 => repeat (first | exact (Kd.C_below HR0_1.out HB.out) | (with_reducible refine Kd.C_alloc ?_ _) | (with_reducible refine Kd.C_drewN ?_ _) | (with_reducible refine Kd.C_drew ?_))); (case side4 => exact HC0_1.out); (case side5 => exact Tabs.below HT.out (by repeat (first | (with_reducible first | exact HB.out | apply below_alloc | apply pw_below_drewN | apply below_drew1 | refine below_set ?_ GE259.out) | exact HB.out))); rintro e w32 ⟨rfl, hb⟩; refine ⟨_, rfl, ?_⟩; have n0_ := Aside0.mk (Kd.R_below (by (with_reducible repeat (first | apply Kd.R_alloc | apply Kd.R_drewN | apply Kd.R_drew)); exact HO_8.out) hb); have n1_ := Aside0.mk (blk_below (g := gb259) (o := .cells #[.slice A0_0 l0_0.length c0_0, .slice A0_1 l0_1.length c0_1] 25 (0, 0)) (by (with_reducible repeat (first | refine blk_drewN ?_ _ | refine blk_drew ?_ | refine blk_alloc ?_ _)); exact BK259.out) hb); have n2_ := Aside0.mk (below_step (by repeat (first | (with_reducible first | exact HB.out | apply below_alloc | apply pw_below_drewN | apply below_drew1 | refine below_set ?_ GE259.out) | exact HB.out)) hb); clear HO_8; clear BK259; clear HB; have HO_8 := n0_; have BK259 := n1_; have HB := n2_; clear n0_ n1_ n2_; (try clear hb); (try clear hb2); (try clear hk); (try clear hi)))
                     (try simp only [Act.put, List.setIfInBounds_toArray, List.set_cons_zero, List.set_cons_succ])
                     go_cut [121] (fun v121 wc => ∃ (kq : Nat) (x121_29 : Bool), v121 = .bool x121_29 ∧ Aside0 (cognatelaw15_DoubleBack.j3 kq a1 a2 t261 t275 x121_29 l0_0 l0_1 = some r) ∧ Aside0 (kq ≤ kj18) ∧ Aside0 (Kd.R (Kd.int .i32) 21 wc w.heap.size (fun _ => True) v262 t261) ∧ Aside0 (wc.heap[gb259]? = some (.cells #[(.slice A0_0 l0_0.length c0_0), (.slice A0_1 l0_1.length c0_1)] 25 (0, 0))) ∧ Aside0 (Below w.heap.size w wc))
                     case first =>
                       as_aux_lemma =>
                        have H := HC30.out
                        clear HC30
                        by_cases c33 : (t261.length : Int) > 0
                        · as_aux_lemma =>
                           rw [if_pos c33] at H
                           have c33b0 : decide (0 < (t261.length : Int)) = true := decide_eq_true c33
                           have c33b1 : decide (0 < t261.length) = true := decide_eq_true (by omega)
                           clear c33
                           (first | rw [c33b0] | (simp only [i64_w, i32_w]; rw [c33b0]) | skip)
                           have H' := Aside0.mk H
                           clear H
                           obtain ⟨Ao34, co34, eo34⟩ := Kd.R_slice HO_8.out
                           subst eo34
                           go_wp2
                           go_meet
                           case rel => exact ⟨_, (decide ((wrap64 (2 * (t261.length : Int))) ≤ 64)), (by first | rfl | (simp; done) | (simp [*]; done)), H', ⟨by have := HJ8.out; have := HJ18.out; first | omega | exact Nat.le_refl _⟩, ⟨by (with_reducible repeat (first | apply Kd.R_alloc | apply Kd.R_drewN | apply Kd.R_drew)); exact HO_8.out⟩, ⟨by (with_reducible repeat (first | refine blk_drewN ?_ _ | refine blk_drew ?_ | refine blk_alloc ?_ _)); exact BK259.out⟩, ⟨by repeat (first | (with_reducible first | exact HB.out | apply below_alloc | apply pw_below_drewN | apply below_drew1 | refine below_set ?_ GE259.out) | exact HB.out)⟩⟩
                        · as_aux_lemma =>
                           rw [if_neg c33] at H
                           have c33b0 : decide (0 < (t261.length : Int)) = false := decide_eq_false c33
                           have c33b1 : decide (0 < t261.length) = false := decide_eq_false (by omega)
                           clear c33
                           (first | rw [c33b0] | (simp only [i64_w, i32_w]; rw [c33b0]) | skip)
                           have H' := Aside0.mk H
                           clear H
                           obtain ⟨Ao35, co35, eo35⟩ := Kd.R_slice HO_8.out
                           subst eo35
                           go_wp2
                           go_meet
                           case rel => exact ⟨_, (false), (by first | rfl | (simp; done) | (simp [*]; done)), H', ⟨by have := HJ8.out; have := HJ18.out; first | omega | exact Nat.le_refl _⟩, ⟨by (with_reducible repeat (first | apply Kd.R_alloc | apply Kd.R_drewN | apply Kd.R_drew)); exact HO_8.out⟩, ⟨by (with_reducible repeat (first | refine blk_drewN ?_ _ | refine blk_drew ?_ | refine blk_alloc ?_ _)); exact BK259.out⟩, ⟨by repeat (first | (with_reducible first | exact HB.out | apply below_alloc | apply pw_below_drewN | apply below_drew1 | refine below_set ?_ GE259.out) | exact HB.out)⟩⟩
                     case rest =>
                       as_aux_lemma =>
                        clear HC30
                        try clear c1
                        try clear c2
                        try clear p2
                        try clear c3
                        try clear c4
                        try clear c5
                        try clear p6
                        try clear c7
                        try clear c7b0
                        try clear c7b1
                        try clear c14
                        try clear c16
                        try clear c16b0
                        try clear c16b1
                        try clear c17
                        try clear c17b0
                        try clear c20
                        try clear c21
                        try clear c22
                        try clear c23
                        try clear c25
                        try clear c25b0
                        try clear c25b1
                        try clear c26
                        try clear c27
                        try clear c29
                        try clear c29b0
                        try clear c29b1
                        try clear c33
                        try clear c33b0
                        try clear c33b1
                        try clear hcz12_0
                        try clear hcz12_1
                        try clear hcz14_0
                        try clear hcz14_1
                        try clear hcz23_0
                        try clear hcz23_1
                        try clear hcz31_0
                        try clear hcz31_1
                        try clear hfz12_0
                        try clear hfz12_1
                        try clear hfz14_0
                        try clear hfz14_1
                        try clear hfz23_0
                        try clear hfz23_1
                        try clear hfz31_0
                        try clear hfz31_1
                        try clear p2
                        try clear p6
                        obtain ⟨kq, x121_29, rfl, HA, HJ29, HO_8, BK259, HB⟩ := hcut
                        cases kq with
                        | zero => exact absurd HA.out (by simp [cognatelaw15_DoubleBack.j3])
                        | succ kj29 =>
                          have H := HA.out
                          clear HA
                          simp only [cognatelaw15_DoubleBack.j3] at H
                          have HC36 := Aside0.mk H
                          clear H
                          go_upto_if 121 with (fail)
                          go_cut [] (fun wc => ∃ (kq : Nat), Aside0 (cognatelaw15_DoubleBack.j5 kq a1 a2 l0_0 l0_1 = some r) ∧ Aside0 (kq ≤ kj29) ∧ Aside0 (wc.heap[gb259]? = some (.cells #[(.slice A0_0 l0_0.length c0_0), (.slice A0_1 l0_1.length c0_1)] 25 (0, 0))) ∧ Aside0 (Below w.heap.size w wc))
                          case first =>
                            as_aux_lemma =>
                             have H := HC36.out
                             clear HC36
                             by_cases c37 : x121_29 = true
                             · as_aux_lemma =>
                                subst c37
                                have H1 : ((double_Single.f kj29 l0_0 l0_1 t275 0).bind fun bt277 => ((double_Runs.f kj29 l0_0 l0_1 t275).bind fun bt280 => (if bt277.2.2 = 0 then (if bt277.2.1 = true then (if bt277.1.toList = a1.toList then (if bt280.2 = 0 then (if (bt280.1.length : Int) = 0 then (cognatelaw15_DoubleBack.j4 kj29 a1 a2 true l0_0 l0_1) else (if 0 < (bt280.1.length : Int) then (cognatelaw15_DoubleBack.j4 kj29 a1 a2 (!(((rd_T35 bt280.1 0).f0) == 0) || (!(((rd_T35 bt280.1 0).f1) == (wrap64 (2 * (t261.length : Int)))))) l0_0 l0_1) else (none))) else (cognatelaw15_DoubleBack.j4 kj29 a1 a2 true l0_0 l0_1)) else (cognatelaw15_DoubleBack.j4 kj29 a1 a2 true l0_0 l0_1)) else (cognatelaw15_DoubleBack.j4 kj29 a1 a2 true l0_0 l0_1)) else (cognatelaw15_DoubleBack.j4 kj29 a1 a2 true l0_0 l0_1)))) = some r := by rw [if_pos rfl] at H; exact H
                                clear H
                                have H := H1
                                clear H1
                                replace H := Option.bind_eq_some_iff.mp H
                                obtain ⟨⟨t277, t278, t279⟩, A380, H⟩ := H
                                replace H : ((double_Runs.f kj29 l0_0 l0_1 t275).bind fun bt280 => (if t279 = 0 then (if t278 = true then (if t277.toList = a1.toList then (if bt280.2 = 0 then (if (bt280.1.length : Int) = 0 then (cognatelaw15_DoubleBack.j4 kj29 a1 a2 true l0_0 l0_1) else (if 0 < (bt280.1.length : Int) then (cognatelaw15_DoubleBack.j4 kj29 a1 a2 (!(((rd_T35 bt280.1 0).f0) == 0) || (!(((rd_T35 bt280.1 0).f1) == (wrap64 (2 * (t261.length : Int)))))) l0_0 l0_1) else (none))) else (cognatelaw15_DoubleBack.j4 kj29 a1 a2 true l0_0 l0_1)) else (cognatelaw15_DoubleBack.j4 kj29 a1 a2 true l0_0 l0_1)) else (cognatelaw15_DoubleBack.j4 kj29 a1 a2 true l0_0 l0_1)) else (cognatelaw15_DoubleBack.j4 kj29 a1 a2 true l0_0 l0_1))) = some r := H
                                have A38 := Aside0.mk A380
                                clear A380
                                replace H := Option.bind_eq_some_iff.mp H
                                obtain ⟨⟨t280, t283⟩, A390, H⟩ := H
                                replace H : (if t279 = 0 then (if t278 = true then (if t277.toList = a1.toList then (if t283 = 0 then (if (t280.length : Int) = 0 then (cognatelaw15_DoubleBack.j4 kj29 a1 a2 true l0_0 l0_1) else (if 0 < (t280.length : Int) then (cognatelaw15_DoubleBack.j4 kj29 a1 a2 (!(((rd_T35 t280 0).f0) == 0) || (!(((rd_T35 t280 0).f1) == (wrap64 (2 * (t261.length : Int)))))) l0_0 l0_1) else (none))) else (cognatelaw15_DoubleBack.j4 kj29 a1 a2 true l0_0 l0_1)) else (cognatelaw15_DoubleBack.j4 kj29 a1 a2 true l0_0 l0_1)) else (cognatelaw15_DoubleBack.j4 kj29 a1 a2 true l0_0 l0_1)) else (cognatelaw15_DoubleBack.j4 kj29 a1 a2 true l0_0 l0_1)) = some r := H
                                have A39 := Aside0.mk A390
                                clear A390
                                have HC40 := Aside0.mk H
                                clear H
                                have hcz41_0 : wc.cell? ⟨gb259, 0, none⟩ = some (.slice A0_0 l0_0.length c0_0) := (blk_cell BK259.out 0).trans rfl
                                have hcz41_1 : wc.cell? ⟨gb259, 1, none⟩ = some (.slice A0_1 l0_1.length c0_1) := (blk_cell BK259.out 1).trans rfl
                                have hfz41_0 := blk_frozen BK259.out 0
                                have hfz41_1 := blk_frozen BK259.out 1
                                go_upto_region 20 with (first | ((with_reducible refine gate_callee (f := 22) rfl ?_); refine goesL_ (some 125) rfl rfl Tryd.func22 (by kernel_rfl) rfl #[.agg #[.slice A0_0 l0_0.length c0_0, .slice A0_1 l0_1.length c0_1], .string t275, .int .i64 0] rfl (by (try simp only [List.map_toArray, List.map_cons, List.map_nil]); first | done | rfl | (simp only [List.length_drop, List.length_take]; rfl)) ?_; (with_reducible refine (double_Single.calls kj29 _ _ l0_0 _ _ l0_1 t275 0 t277 t278 t279 _ ?side5 ?side1 ?side2 ?side3 ?side4 A38.out).mono ?_); (case side1 => repeat (first | exact (Kd.C_below HR0_0.out HB.out) | (with_reducible refine Kd.C_alloc ?_ _) | (with_reducible refine Kd.C_drewN ?_ _) | (with_reducible refine Kd.C_drew ?_))); (case side2 => exact HC0_0.out); (case side3 => repeat (first | exact (Kd.C_below HR0_1.out HB.out) | (with_reducible refine Kd.C_alloc ?_ _) | (with_reducible refine Kd.C_drewN ?_ _) | (with_reducible refine Kd.C_drew ?_))); (case side4 => exact HC0_1.out); (case side5 => exact Tabs.below HT.out (by repeat (first | (with_reducible first | exact HB.out | apply below_alloc | apply pw_below_drewN | apply below_drew1 | refine below_set ?_ GE259.out) | exact HB.out))); rintro e w42 ⟨rfl, hb⟩; refine ⟨_, rfl, ?_⟩; have n0_ := Aside0.mk (Kd.R_below (by (with_reducible repeat (first | apply Kd.R_alloc | apply Kd.R_drewN | apply Kd.R_drew)); exact HO_8.out) hb); have n1_ := Aside0.mk (blk_below (g := gb259) (o := .cells #[.slice A0_0 l0_0.length c0_0, .slice A0_1 l0_1.length c0_1] 25 (0, 0)) (by (with_reducible repeat (first | refine blk_drewN ?_ _ | refine blk_drew ?_ | refine blk_alloc ?_ _)); exact BK259.out) hb); have n2_ := Aside0.mk (below_step (by repeat (first | (with_reducible first | exact HB.out | apply below_alloc | apply pw_below_drewN | apply below_drew1 | refine below_set ?_ GE259.out) | exact HB.out)) hb); clear HO_8; clear BK259; clear HB; have HO_8 := n0_; have BK259 := n1_; have HB := n2_; clear n0_ n1_ n2_; (try clear hb); (try clear hb2); (try clear hk); (try clear hi); have hcz43_0 : w42.cell? ⟨gb259, 0, none⟩ = some (.slice A0_0 l0_0.length c0_0) := (blk_cell BK259.out 0).trans rfl; have hcz43_1 : w42.cell? ⟨gb259, 1, none⟩ = some (.slice A0_1 l0_1.length c0_1) := (blk_cell BK259.out 1).trans rfl; have hfz43_0 := blk_frozen BK259.out 0; have hfz43_1 := blk_frozen BK259.out 1) | ((with_reducible refine gate_callee (f := 15) rfl ?_); refine goesL_ (some 132) rfl rfl Tryd.func15 (by kernel_rfl) rfl #[.agg #[.slice A0_0 l0_0.length c0_0, .slice A0_1 l0_1.length c0_1], .string t275] rfl (by (try simp only [List.map_toArray, List.map_cons, List.map_nil]); first | done | rfl | (simp only [List.length_drop, List.length_take]; rfl)) ?_; (with_reducible refine (double_Runs.calls kj29 _ _ l0_0 _ _ l0_1 t275 t280 t283 _ ?side5 ?side1 ?side2 ?side3 ?side4 A39.out).mono ?_); (case side1 => repeat (first | exact (Kd.C_below HR0_0.out HB.out) | (with_reducible refine Kd.C_alloc ?_ _) | (with_reducible refine Kd.C_drewN ?_ _) | (with_reducible refine Kd.C_drew ?_))); (case side2 => exact HC0_0.out); (case side3 => repeat (first | exact (Kd.C_below HR0_1.out HB.out) | (with_reducible refine Kd.C_alloc ?_ _) | (with_reducible refine Kd.C_drewN ?_ _) | (with_reducible refine Kd.C_drew ?_))); (case side4 => exact HC0_1.out); (case side5 => exact Tabs.below HT.out (by repeat (first | (with_reducible first | exact HB.out | apply below_alloc | apply pw_below_drewN | apply below_drew1 | refine below_set ?_ GE259.out) | exact HB.out))); rintro e w44 ⟨v281, rfl, ho0, hb⟩; refine ⟨_, rfl, ?_⟩; have n0_ := Aside0.mk (Kd.R_below (by (with_reducible repeat (first | apply Kd.R_alloc | apply Kd.R_drewN | apply Kd.R_drew)); exact HO_8.out) hb); have n1_ := Aside0.mk (Kd.R_lower ho0 (below_size (by repeat (first | (with_reducible first | exact HB.out | apply below_alloc | apply pw_below_drewN | apply below_drew1 | refine below_set ?_ GE259.out) | exact HB.out)))); have n2_ := Aside0.mk (blk_below (g := gb259) (o := .cells #[.slice A0_0 l0_0.length c0_0, .slice A0_1 l0_1.length c0_1] 25 (0, 0)) (by (with_reducible repeat (first | refine blk_drewN ?_ _ | refine blk_drew ?_ | refine blk_alloc ?_ _)); exact BK259.out) hb); have n3_ := Aside0.mk (below_step (by repeat (first | (with_reducible first | exact HB.out | apply below_alloc | apply pw_below_drewN | apply below_drew1 | refine below_set ?_ GE259.out) | exact HB.out)) hb); clear HO_8; clear BK259; clear HB; have HO_8 := n0_; have HO282 := n1_; have BK259 := n2_; have HB := n3_; clear n0_ n1_ n2_ n3_; (try clear hb); (try clear hb2); (try clear hk); (try clear hi); (try clear ho0)))
                                (try simp only [Act.put, List.setIfInBounds_toArray, List.set_cons_zero, List.set_cons_succ])
                                go_cut [164] (fun v164 wc => ∃ (kq : Nat) (x164_39 : Bool), v164 = .bool x164_39 ∧ Aside0 (cognatelaw15_DoubleBack.j4 kq a1 a2 x164_39 l0_0 l0_1 = some r) ∧ Aside0 (kq ≤ kj29) ∧ Aside0 (wc.heap[gb259]? = some (.cells #[(.slice A0_0 l0_0.length c0_0), (.slice A0_1 l0_1.length c0_1)] 25 (0, 0))) ∧ Aside0 (Below w.heap.size w wc))
                                case first =>
                                  as_aux_lemma =>
                                   have H := HC40.out
                                   clear HC40
                                   by_cases c45 : t279 = 0
                                   · as_aux_lemma =>
                                      rw [if_pos c45] at H
                                      have c45b0 : (t279 == 0) = true := beq_iff_eq.mpr c45
                                      have c45b1 : (t279 != 0) = false := bne_eq_false_iff_eq.mpr c45
                                      clear c45
                                      (first | rw [c45b0] | (simp only [i64_w, i32_w]; rw [c45b0]) | skip)
                                      by_cases c46 : t278 = true
                                      · as_aux_lemma =>
                                         subst c46
                                         have H1 : (if t277.toList = a1.toList then (if t283 = 0 then (if (t280.length : Int) = 0 then (cognatelaw15_DoubleBack.j4 kj29 a1 a2 true l0_0 l0_1) else (if 0 < (t280.length : Int) then (cognatelaw15_DoubleBack.j4 kj29 a1 a2 (!(((rd_T35 t280 0).f0) == 0) || (!(((rd_T35 t280 0).f1) == (wrap64 (2 * (t261.length : Int)))))) l0_0 l0_1) else (none))) else (cognatelaw15_DoubleBack.j4 kj29 a1 a2 true l0_0 l0_1)) else (cognatelaw15_DoubleBack.j4 kj29 a1 a2 true l0_0 l0_1)) = some r := by rw [if_pos rfl] at H; exact H
                                         clear H
                                         have H := H1
                                         clear H1
                                         by_cases c47 : t277.toList = a1.toList
                                         · as_aux_lemma =>
                                            rw [if_pos c47] at H
                                            have c47b0 : (t277.toList == a1.toList) = true := beq_iff_eq.mpr c47
                                            have c47b1 : (t277.toList != a1.toList) = false := bne_eq_false_iff_eq.mpr c47
                                            clear c47
                                            by_cases c48 : t283 = 0
                                            · as_aux_lemma =>
                                               rw [if_pos c48] at H
                                               have c48b0 : (t283 == 0) = true := beq_iff_eq.mpr c48
                                               have c48b1 : (t283 != 0) = false := bne_eq_false_iff_eq.mpr c48
                                               clear c48
                                               by_cases c49 : (t280.length : Int) = 0
                                               · as_aux_lemma =>
                                                  rw [if_pos c49] at H
                                                  have c49b0 : ((t280.length : Int) == 0) = true := beq_iff_eq.mpr c49
                                                  have c49b1 : ((t280.length : Int) != 0) = false := bne_eq_false_iff_eq.mpr c49
                                                  clear c49
                                                  have H' := Aside0.mk H
                                                  clear H
                                                  obtain ⟨Ao50, co50, eo50⟩ := Kd.R_slice HO282.out
                                                  subst eo50
                                                  go_wp2
                                                  go_meet
                                                  case rel => exact ⟨_, (true), (by first | rfl | (simp; done) | (simp [*]; done)), H', ⟨by have := HJ8.out; have := HJ18.out; have := HJ29.out; first | omega | exact Nat.le_refl _⟩, ⟨by (with_reducible repeat (first | refine blk_drewN ?_ _ | refine blk_drew ?_ | refine blk_alloc ?_ _)); exact BK259.out⟩, ⟨by repeat (first | (with_reducible first | exact HB.out | apply below_alloc | apply pw_below_drewN | apply below_drew1 | refine below_set ?_ GE259.out) | exact HB.out)⟩⟩
                                               · as_aux_lemma =>
                                                  rw [if_neg c49] at H
                                                  have c49b0 : ((t280.length : Int) == 0) = false := beq_eq_false_iff_ne.mpr c49
                                                  have c49b1 : ((t280.length : Int) != 0) = true := bne_iff_ne.mpr c49
                                                  have c49b2 : ¬ (t280 = []) := fun h_ => c49 (by rw [h_]; rfl)
                                                  by_cases c51 : 0 < (t280.length : Int)
                                                  · as_aux_lemma =>
                                                     rw [if_pos c51] at H
                                                     have c51b0 : decide (0 < (t280.length : Int)) = true := decide_eq_true c51
                                                     have c51b1 : decide (0 < t280.length) = true := decide_eq_true (by omega)
                                                     clear c51
                                                     have H' := Aside0.mk H
                                                     clear H
                                                     obtain ⟨Ao52, co52, eo52⟩ := Kd.R_slice HO282.out
                                                     subst eo52
                                                     have p284 : 0 ≤ (0 : Int) := (by omega)
                                                     have q284 : 0 < (t280.length : Int) := of_decide_eq_true (by first | (with_reducible assumption) | assumption)
                                                     obtain ⟨ad284, e284, hx284_0, hx284_1⟩ := at_T35 (Kd.R_reads' HO282.out).2.2 0 p284 q284
                                                     cases e284
                                                     have qi284 : (0 < t280.length) = True := eq_true (by omega)
                                                     (try rw [show ((0 : Int)).toNat = 0 from rfl] at hx284_0)
                                                     (try rw [show 0 * 2 = 0 from rfl] at hx284_0)
                                                     (try rw [Addr.add_zero'] at hx284_0)
                                                     (try rw [show ((0 : Int)).toNat = 0 from rfl] at hx284_1)
                                                     (try rw [show 0 * 2 = 0 from rfl] at hx284_1)
                                                     (try rw [Addr.add_zero'] at hx284_1)
                                                     replace p284 := eq_true p284
                                                     replace q284 := eq_true q284
                                                     obtain ⟨Ao53, co53, eo53⟩ := Kd.R_slice HO_8.out
                                                     subst eo53
                                                     obtain ⟨z161, hz161⟩ : ∃ z161, wrap64 (2 * (t261.length : Int)) = z161 := ⟨_, rfl⟩
                                                     have hz161w : IntKind.i64.wrap (2 * (t261.length : Int)) = z161 := by rw [i64_w]; exact hz161
                                                     go_wp2
                                                     go_meet
                                                     case rel => exact ⟨_, ((!(((rd_T35 t280 0).f0) == 0) || (!(((rd_T35 t280 0).f1) == (wrap64 (2 * (t261.length : Int))))))), (by first | (with_reducible rfl) | (rw [hz161]; with_reducible rfl) | (simp; done) | (simp [*]; done)), H', ⟨by have := HJ8.out; have := HJ18.out; have := HJ29.out; first | omega | exact Nat.le_refl _⟩, ⟨by (with_reducible repeat (first | refine blk_drewN ?_ _ | refine blk_drew ?_ | refine blk_alloc ?_ _)); exact BK259.out⟩, ⟨by repeat (first | (with_reducible first | exact HB.out | apply below_alloc | apply pw_below_drewN | apply below_drew1 | refine below_set ?_ GE259.out) | exact HB.out)⟩⟩
                                                  · as_aux_lemma =>
                                                     rw [if_neg c51] at H
                                                     exact absurd H (by simp)
                                            · as_aux_lemma =>
                                               rw [if_neg c48] at H
                                               have c48b0 : (t283 == 0) = false := beq_eq_false_iff_ne.mpr c48
                                               have c48b1 : (t283 != 0) = true := bne_iff_ne.mpr c48
                                               have H' := Aside0.mk H
                                               clear H
                                               go_wp2
                                               go_meet
                                               case rel => exact ⟨_, (true), (by first | rfl | (simp; done) | (simp [*]; done)), H', ⟨by have := HJ8.out; have := HJ18.out; have := HJ29.out; first | omega | exact Nat.le_refl _⟩, ⟨by (with_reducible repeat (first | refine blk_drewN ?_ _ | refine blk_drew ?_ | refine blk_alloc ?_ _)); exact BK259.out⟩, ⟨by repeat (first | (with_reducible first | exact HB.out | apply below_alloc | apply pw_below_drewN | apply below_drew1 | refine below_set ?_ GE259.out) | exact HB.out)⟩⟩
                                         · as_aux_lemma =>
                                            rw [if_neg c47] at H
                                            have c47b0 : (t277.toList == a1.toList) = false := beq_eq_false_iff_ne.mpr c47
                                            have c47b1 : (t277.toList != a1.toList) = true := bne_iff_ne.mpr c47
                                            have H' := Aside0.mk H
                                            clear H
                                            go_wp2
                                            go_meet
                                            case rel => exact ⟨_, (true), (by first | rfl | (simp; done) | (simp [*]; done)), H', ⟨by have := HJ8.out; have := HJ18.out; have := HJ29.out; first | omega | exact Nat.le_refl _⟩, ⟨by (with_reducible repeat (first | refine blk_drewN ?_ _ | refine blk_drew ?_ | refine blk_alloc ?_ _)); exact BK259.out⟩, ⟨by repeat (first | (with_reducible first | exact HB.out | apply below_alloc | apply pw_below_drewN | apply below_drew1 | refine below_set ?_ GE259.out) | exact HB.out)⟩⟩
                                      · as_aux_lemma =>
                                         replace c46 := Bool.eq_false_iff.mpr c46
                                         subst c46
                                         have H1 : (cognatelaw15_DoubleBack.j4 kj29 a1 a2 true l0_0 l0_1) = some r := by rw [if_neg (show ¬ (false = true) by decide)] at H; exact H
                                         clear H
                                         have H := H1
                                         clear H1
                                         have H' := Aside0.mk H
                                         clear H
                                         go_wp2
                                         go_meet
                                         case rel => exact ⟨_, (true), (by first | rfl | (simp; done) | (simp [*]; done)), H', ⟨by have := HJ8.out; have := HJ18.out; have := HJ29.out; first | omega | exact Nat.le_refl _⟩, ⟨by (with_reducible repeat (first | refine blk_drewN ?_ _ | refine blk_drew ?_ | refine blk_alloc ?_ _)); exact BK259.out⟩, ⟨by repeat (first | (with_reducible first | exact HB.out | apply below_alloc | apply pw_below_drewN | apply below_drew1 | refine below_set ?_ GE259.out) | exact HB.out)⟩⟩
                                   · as_aux_lemma =>
                                      rw [if_neg c45] at H
                                      have c45b0 : (t279 == 0) = false := beq_eq_false_iff_ne.mpr c45
                                      have c45b1 : (t279 != 0) = true := bne_iff_ne.mpr c45
                                      (first | rw [c45b0] | (simp only [i64_w, i32_w]; rw [c45b0]) | skip)
                                      have H' := Aside0.mk H
                                      clear H
                                      go_wp2
                                      go_meet
                                      case rel => exact ⟨_, (true), (by first | rfl | (simp; done) | (simp [*]; done)), H', ⟨by have := HJ8.out; have := HJ18.out; have := HJ29.out; first | omega | exact Nat.le_refl _⟩, ⟨by (with_reducible repeat (first | refine blk_drewN ?_ _ | refine blk_drew ?_ | refine blk_alloc ?_ _)); exact BK259.out⟩, ⟨by repeat (first | (with_reducible first | exact HB.out | apply below_alloc | apply pw_below_drewN | apply below_drew1 | refine below_set ?_ GE259.out) | exact HB.out)⟩⟩
                                case rest =>
                                  as_aux_lemma =>
                                   clear HC40
                                   try clear c1
                                   try clear c2
                                   try clear p2
                                   try clear q2
                                   try clear hx2
                                   try clear qi2
                                   try clear c3
                                   try clear c4
                                   try clear c5
                                   try clear p6
                                   try clear c7
                                   try clear c7b0
                                   try clear c7b1
                                   try clear c14
                                   try clear c15
                                   try clear c16
                                   try clear c16b0
                                   try clear c16b1
                                   try clear c17
                                   try clear c17b0
                                   try clear c20
                                   try clear c21
                                   try clear c22
                                   try clear c23
                                   try clear c25
                                   try clear c25b0
                                   try clear c25b1
                                   try clear c26
                                   try clear c27
                                   try clear p28
                                   try clear q28
                                   try clear hx28
                                   try clear qi28
                                   try clear c29
                                   try clear c29b0
                                   try clear c29b1
                                   try clear c33
                                   try clear c33b0
                                   try clear c33b1
                                   try clear c37
                                   try clear c45
                                   try clear c45b0
                                   try clear c45b1
                                   try clear c46
                                   try clear c47
                                   try clear c47b0
                                   try clear c47b1
                                   try clear c48
                                   try clear c48b0
                                   try clear c48b1
                                   try clear c49
                                   try clear c49b0
                                   try clear c49b1
                                   try clear c49b2
                                   try clear c51
                                   try clear c51b0
                                   try clear c51b1
                                   try clear hcz12_0
                                   try clear hcz12_1
                                   try clear hcz14_0
                                   try clear hcz14_1
                                   try clear hcz23_0
                                   try clear hcz23_1
                                   try clear hcz31_0
                                   try clear hcz31_1
                                   try clear hcz41_0
                                   try clear hcz41_1
                                   try clear hcz43_0
                                   try clear hcz43_1
                                   try clear hfz12_0
                                   try clear hfz12_1
                                   try clear hfz14_0
                                   try clear hfz14_1
                                   try clear hfz23_0
                                   try clear hfz23_1
                                   try clear hfz31_0
                                   try clear hfz31_1
                                   try clear hfz41_0
                                   try clear hfz41_1
                                   try clear hfz43_0
                                   try clear hfz43_1
                                   try clear hx284_0
                                   try clear hx284_1
                                   try clear p2
                                   try clear p284
                                   try clear p6
                                   try clear q284
                                   obtain ⟨kq, x164_39, rfl, HA, HJ39, BK259, HB⟩ := hcut
                                   cases kq with
                                   | zero => exact absurd HA.out (by simp [cognatelaw15_DoubleBack.j4])
                                   | succ kj39 =>
                                     have H := HA.out
                                     clear HA
                                     simp only [cognatelaw15_DoubleBack.j4] at H
                                     by_cases c54 : x164_39 = true
                                     · as_aux_lemma =>
                                        subst c54
                                        have H1 : (some false) = some r := by rw [if_pos rfl] at H; exact H
                                        clear H
                                        have H := H1
                                        clear H1
                                        obtain rfl := Option.some.inj H
                                        go_wp2
                                        go_ret
                                        exact ⟨by first | rfl | (simp [errW_none, errW_some] <;> rfl) | (simp [*, errW_none, errW_some] <;> rfl), by repeat (first | (with_reducible first | exact HB.out | apply below_alloc | apply pw_below_drewN | apply below_drew1 | refine below_set ?_ GE259.out) | exact HB.out)⟩
                                     · as_aux_lemma =>
                                        replace c54 := Bool.eq_false_iff.mpr c54
                                        subst c54
                                        have H1 : (cognatelaw15_DoubleBack.j5 kj39 a1 a2 l0_0 l0_1) = some r := by rw [if_neg (show ¬ (false = true) by decide)] at H; exact H
                                        clear H
                                        have H := H1
                                        clear H1
                                        have H' := Aside0.mk H
                                        clear H
                                        go_wp2
                                        go_meet
                                        case rel => exact ⟨_, H', ⟨by have := HJ8.out; have := HJ18.out; have := HJ29.out; have := HJ39.out; first | omega | exact Nat.le_refl _⟩, ⟨by (with_reducible repeat (first | refine blk_drewN ?_ _ | refine blk_drew ?_ | refine blk_alloc ?_ _)); exact BK259.out⟩, ⟨by repeat (first | (with_reducible first | exact HB.out | apply below_alloc | apply pw_below_drewN | apply below_drew1 | refine below_set ?_ GE259.out) | exact HB.out)⟩⟩
                             · as_aux_lemma =>
                                replace c37 := Bool.eq_false_iff.mpr c37
                                subst c37
                                have H1 : (cognatelaw15_DoubleBack.j5 kj29 a1 a2 l0_0 l0_1) = some r := by rw [if_neg (show ¬ (false = true) by decide)] at H; exact H
                                clear H
                                have H := H1
                                clear H1
                                have H' := Aside0.mk H
                                clear H
                                go_wp2
                                go_meet
                                case rel => exact ⟨_, H', ⟨by have := HJ8.out; have := HJ18.out; have := HJ29.out; first | omega | exact Nat.le_refl _⟩, ⟨by (with_reducible repeat (first | refine blk_drewN ?_ _ | refine blk_drew ?_ | refine blk_alloc ?_ _)); exact BK259.out⟩, ⟨by repeat (first | (with_reducible first | exact HB.out | apply below_alloc | apply pw_below_drewN | apply below_drew1 | refine below_set ?_ GE259.out) | exact HB.out)⟩⟩
                          case rest =>
                            as_aux_lemma =>
                             clear HC36
                             try clear c1
                             try clear c2
                             try clear p2
                             try clear q2
                             try clear hx2
                             try clear qi2
                             try clear c3
                             try clear c4
                             try clear c5
                             try clear p6
                             try clear c7
                             try clear c7b0
                             try clear c7b1
                             try clear c14
                             try clear c15
                             try clear c16
                             try clear c16b0
                             try clear c16b1
                             try clear c17
                             try clear c17b0
                             try clear c20
                             try clear c21
                             try clear c22
                             try clear c23
                             try clear c25
                             try clear c25b0
                             try clear c25b1
                             try clear c26
                             try clear c27
                             try clear p28
                             try clear q28
                             try clear hx28
                             try clear qi28
                             try clear c29
                             try clear c29b0
                             try clear c29b1
                             try clear c33
                             try clear c33b0
                             try clear c33b1
                             try clear c37
                             try clear c45
                             try clear c45b0
                             try clear c45b1
                             try clear c46
                             try clear c47
                             try clear c47b0
                             try clear c47b1
                             try clear c48
                             try clear c48b0
                             try clear c48b1
                             try clear c49
                             try clear c49b0
                             try clear c49b1
                             try clear c49b2
                             try clear c51
                             try clear c51b0
                             try clear c51b1
                             try clear c54
                             try clear hcz12_0
                             try clear hcz12_1
                             try clear hcz14_0
                             try clear hcz14_1
                             try clear hcz23_0
                             try clear hcz23_1
                             try clear hcz31_0
                             try clear hcz31_1
                             try clear hcz41_0
                             try clear hcz41_1
                             try clear hcz43_0
                             try clear hcz43_1
                             try clear hfz12_0
                             try clear hfz12_1
                             try clear hfz14_0
                             try clear hfz14_1
                             try clear hfz23_0
                             try clear hfz23_1
                             try clear hfz31_0
                             try clear hfz31_1
                             try clear hfz41_0
                             try clear hfz41_1
                             try clear hfz43_0
                             try clear hfz43_1
                             try clear hx284_0
                             try clear hx284_1
                             try clear p2
                             try clear p28
                             try clear p284
                             try clear p6
                             try clear q2
                             try clear q28
                             try clear q284
                             obtain ⟨kq, HA, HJ35, BK259, HB⟩ := hcut
                             cases kq with
                             | zero => exact absurd HA.out (by simp [cognatelaw15_DoubleBack.j5])
                             | succ kj35 =>
                               have H := HA.out
                               clear HA
                               simp only [cognatelaw15_DoubleBack.j5] at H
                               replace H := Option.bind_eq_some_iff.mp H
                               obtain ⟨⟨t285, t286, t287⟩, A550, H⟩ := H
                               replace H : (if t287 = 0 then (cognatelaw15_DoubleBack.j6 kj35 a1 a2 t285 (!t286) l0_0 l0_1) else (cognatelaw15_DoubleBack.j6 kj35 a1 a2 t285 true l0_0 l0_1)) = some r := H
                               have A55 := Aside0.mk A550
                               clear A550
                               have HC56 := Aside0.mk H
                               clear H
                               have hcz57_0 : wc.cell? ⟨gb259, 0, none⟩ = some (.slice A0_0 l0_0.length c0_0) := (blk_cell BK259.out 0).trans rfl
                               have hcz57_1 : wc.cell? ⟨gb259, 1, none⟩ = some (.slice A0_1 l0_1.length c0_1) := (blk_cell BK259.out 1).trans rfl
                               have hfz57_0 := blk_frozen BK259.out 0
                               have hfz57_1 := blk_frozen BK259.out 1
                               go_upto_region 23 with (first | ((with_reducible refine gate_callee (f := 22) rfl ?_); refine goesL_ (some 169) rfl rfl Tryd.func22 (by kernel_rfl) rfl #[.agg #[.slice A0_0 l0_0.length c0_0, .slice A0_1 l0_1.length c0_1], .string a1, .int .i64 a2] rfl (by (try simp only [List.map_toArray, List.map_cons, List.map_nil]); first | done | rfl | (simp only [List.length_drop, List.length_take]; rfl)) ?_; (with_reducible refine (double_Single.calls kj35 _ _ l0_0 _ _ l0_1 a1 a2 t285 t286 t287 _ ?side5 ?side1 ?side2 ?side3 ?side4 A55.out).mono ?_); (case side1 => repeat (first | exact (Kd.C_below HR0_0.out HB.out) | (with_reducible refine Kd.C_alloc ?_ _) | (with_reducible refine Kd.C_drewN ?_ _) | (with_reducible refine Kd.C_drew ?_))); (case side2 => exact HC0_0.out); (case side3 => repeat (first | exact (Kd.C_below HR0_1.out HB.out) | (with_reducible refine Kd.C_alloc ?_ _) | (with_reducible refine Kd.C_drewN ?_ _) | (with_reducible refine Kd.C_drew ?_))); (case side4 => exact HC0_1.out); (case side5 => exact Tabs.below HT.out (by repeat (first | (with_reducible first | exact HB.out | apply below_alloc | apply pw_below_drewN | apply below_drew1 | refine below_set ?_ GE259.out) | exact HB.out))); rintro e w58 ⟨rfl, hb⟩; refine ⟨_, rfl, ?_⟩; have n0_ := Aside0.mk (blk_below (g := gb259) (o := .cells #[.slice A0_0 l0_0.length c0_0, .slice A0_1 l0_1.length c0_1] 25 (0, 0)) (by (with_reducible repeat (first | refine blk_drewN ?_ _ | refine blk_drew ?_ | refine blk_alloc ?_ _)); exact BK259.out) hb); have n1_ := Aside0.mk (below_step (by repeat (first | (with_reducible first | exact HB.out | apply below_alloc | apply pw_below_drewN | apply below_drew1 | refine below_set ?_ GE259.out) | exact HB.out)) hb); clear BK259; clear HB; have BK259 := n0_; have HB := n1_; clear n0_ n1_; (try clear hb); (try clear hb2); (try clear hk); (try clear hi)))
                               (try simp only [Act.put, List.setIfInBounds_toArray, List.set_cons_zero, List.set_cons_succ])
                               go_cut [178] (fun v178 wc => ∃ (kq : Nat) (x178_55 : Bool), v178 = .bool x178_55 ∧ Aside0 (cognatelaw15_DoubleBack.j6 kq a1 a2 t285 x178_55 l0_0 l0_1 = some r) ∧ Aside0 (kq ≤ kj35) ∧ Aside0 (wc.heap[gb259]? = some (.cells #[(.slice A0_0 l0_0.length c0_0), (.slice A0_1 l0_1.length c0_1)] 25 (0, 0))) ∧ Aside0 (Below w.heap.size w wc))
                               case first =>
                                 as_aux_lemma =>
                                  have H := HC56.out
                                  clear HC56
                                  by_cases c59 : t287 = 0
                                  · as_aux_lemma =>
                                     rw [if_pos c59] at H
                                     have c59b0 : (t287 == 0) = true := beq_iff_eq.mpr c59
                                     have c59b1 : (t287 != 0) = false := bne_eq_false_iff_eq.mpr c59
                                     clear c59
                                     (first | rw [c59b0] | (simp only [i64_w, i32_w]; rw [c59b0]) | skip)
                                     have H' := Aside0.mk H
                                     clear H
                                     go_wp2
                                     go_meet
                                     case rel => exact ⟨_, (!t286), (by first | rfl | (simp; done) | (simp [*]; done)), H', ⟨by have := HJ8.out; have := HJ18.out; have := HJ29.out; have := HJ35.out; first | omega | exact Nat.le_refl _⟩, ⟨by (with_reducible repeat (first | refine blk_drewN ?_ _ | refine blk_drew ?_ | refine blk_alloc ?_ _)); exact BK259.out⟩, ⟨by repeat (first | (with_reducible first | exact HB.out | apply below_alloc | apply pw_below_drewN | apply below_drew1 | refine below_set ?_ GE259.out) | exact HB.out)⟩⟩
                                  · as_aux_lemma =>
                                     rw [if_neg c59] at H
                                     have c59b0 : (t287 == 0) = false := beq_eq_false_iff_ne.mpr c59
                                     have c59b1 : (t287 != 0) = true := bne_iff_ne.mpr c59
                                     (first | rw [c59b0] | (simp only [i64_w, i32_w]; rw [c59b0]) | skip)
                                     have H' := Aside0.mk H
                                     clear H
                                     go_wp2
                                     go_meet
                                     case rel => exact ⟨_, (true), (by first | rfl | (simp; done) | (simp [*]; done)), H', ⟨by have := HJ8.out; have := HJ18.out; have := HJ29.out; have := HJ35.out; first | omega | exact Nat.le_refl _⟩, ⟨by (with_reducible repeat (first | refine blk_drewN ?_ _ | refine blk_drew ?_ | refine blk_alloc ?_ _)); exact BK259.out⟩, ⟨by repeat (first | (with_reducible first | exact HB.out | apply below_alloc | apply pw_below_drewN | apply below_drew1 | refine below_set ?_ GE259.out) | exact HB.out)⟩⟩
                               case rest =>
                                 as_aux_lemma =>
                                  clear HC56
                                  try clear c1
                                  try clear c2
                                  try clear p2
                                  try clear q2
                                  try clear hx2
                                  try clear qi2
                                  try clear c3
                                  try clear c4
                                  try clear c5
                                  try clear p6
                                  try clear c7
                                  try clear c7b0
                                  try clear c7b1
                                  try clear c14
                                  try clear c15
                                  try clear c16
                                  try clear c16b0
                                  try clear c16b1
                                  try clear c17
                                  try clear c17b0
                                  try clear c20
                                  try clear c21
                                  try clear c22
                                  try clear c23
                                  try clear c25
                                  try clear c25b0
                                  try clear c25b1
                                  try clear c26
                                  try clear c27
                                  try clear p28
                                  try clear q28
                                  try clear hx28
                                  try clear qi28
                                  try clear c29
                                  try clear c29b0
                                  try clear c29b1
                                  try clear c33
                                  try clear c33b0
                                  try clear c33b1
                                  try clear c37
                                  try clear c45
                                  try clear c45b0
                                  try clear c45b1
                                  try clear c46
                                  try clear c47
                                  try clear c47b0
                                  try clear c47b1
                                  try clear c48
                                  try clear c48b0
                                  try clear c48b1
                                  try clear c49
                                  try clear c49b0
                                  try clear c49b1
                                  try clear c49b2
                                  try clear c51
                                  try clear c51b0
                                  try clear c51b1
                                  try clear c54
                                  try clear c59
                                  try clear c59b0
                                  try clear c59b1
                                  try clear hcz12_0
                                  try clear hcz12_1
                                  try clear hcz14_0
                                  try clear hcz14_1
                                  try clear hcz23_0
                                  try clear hcz23_1
                                  try clear hcz31_0
                                  try clear hcz31_1
                                  try clear hcz41_0
                                  try clear hcz41_1
                                  try clear hcz43_0
                                  try clear hcz43_1
                                  try clear hcz57_0
                                  try clear hcz57_1
                                  try clear hfz12_0
                                  try clear hfz12_1
                                  try clear hfz14_0
                                  try clear hfz14_1
                                  try clear hfz23_0
                                  try clear hfz23_1
                                  try clear hfz31_0
                                  try clear hfz31_1
                                  try clear hfz41_0
                                  try clear hfz41_1
                                  try clear hfz43_0
                                  try clear hfz43_1
                                  try clear hfz57_0
                                  try clear hfz57_1
                                  try clear hx284_0
                                  try clear hx284_1
                                  try clear p2
                                  try clear p28
                                  try clear p284
                                  try clear p6
                                  try clear q2
                                  try clear q28
                                  try clear q284
                                  obtain ⟨kq, x178_55, rfl, HA, HJ55, BK259, HB⟩ := hcut
                                  cases kq with
                                  | zero => exact absurd HA.out (by simp [cognatelaw15_DoubleBack.j6])
                                  | succ kj55 =>
                                    have H := HA.out
                                    clear HA
                                    simp only [cognatelaw15_DoubleBack.j6] at H
                                    by_cases c60 : x178_55 = true
                                    · as_aux_lemma =>
                                       subst c60
                                       have H1 : (some (t285.toList == ([] : List UInt8))) = some r := by rw [if_pos rfl] at H; exact H
                                       clear H
                                       have H := H1
                                       clear H1
                                       obtain rfl := Option.some.inj H
                                       go_wp2
                                       go_ret
                                       exact ⟨by first | rfl | (simp [errW_none, errW_some] <;> rfl) | (simp [*, errW_none, errW_some] <;> rfl), by repeat (first | (with_reducible first | exact HB.out | apply below_alloc | apply pw_below_drewN | apply below_drew1 | refine below_set ?_ GE259.out) | exact HB.out)⟩
                                    · as_aux_lemma =>
                                       replace c60 := Bool.eq_false_iff.mpr c60
                                       subst c60
                                       have H1 : (if a2 = 0 then ((double_Whole.f l0_0 l0_1 t285).bind fun bt288 => (if bt288.2 = 0 then (some (bt288.1.toList == a1.toList)) else (some false))) else ((double_Front.f kj55 l0_0 l0_1 t285 a2).bind fun bt290 => (if bt290.2 = 0 then (some (bt290.1.toList == a1.toList)) else (some false)))) = some r := by rw [if_neg (show ¬ (false = true) by decide)] at H; exact H
                                       clear H
                                       have H := H1
                                       clear H1
                                       by_cases c61 : a2 = 0
                                       · as_aux_lemma =>
                                          rw [if_pos c61] at H
                                          have c61b0 : (a2 == 0) = true := beq_iff_eq.mpr c61
                                          have c61b1 : (a2 != 0) = false := bne_eq_false_iff_eq.mpr c61
                                          clear c61
                                          replace H := Option.bind_eq_some_iff.mp H
                                          obtain ⟨⟨t288, t289⟩, A620, H⟩ := H
                                          replace H : (if t289 = 0 then (some (t288.toList == a1.toList)) else (some false)) = some r := H
                                          have A62 := Aside0.mk A620
                                          clear A620
                                          by_cases c63 : t289 = 0
                                          · as_aux_lemma =>
                                             rw [if_pos c63] at H
                                             have c63b0 : (t289 == 0) = true := beq_iff_eq.mpr c63
                                             have c63b1 : (t289 != 0) = false := bne_eq_false_iff_eq.mpr c63
                                             clear c63
                                             obtain rfl := Option.some.inj H
                                             have hcz64_0 : wc.cell? ⟨gb259, 0, none⟩ = some (.slice A0_0 l0_0.length c0_0) := (blk_cell BK259.out 0).trans rfl
                                             have hcz64_1 : wc.cell? ⟨gb259, 1, none⟩ = some (.slice A0_1 l0_1.length c0_1) := (blk_cell BK259.out 1).trans rfl
                                             have hfz64_0 := blk_frozen BK259.out 0
                                             have hfz64_1 := blk_frozen BK259.out 1
                                             go_wp2_with (first | ((with_reducible refine gate_callee (f := 23) rfl ?_); refine goesL_ (some 186) rfl rfl Tryd.func23 (by kernel_rfl) rfl #[.agg #[.slice A0_0 l0_0.length c0_0, .slice A0_1 l0_1.length c0_1], .string t285] rfl (by (try simp only [List.map_toArray, List.map_cons, List.map_nil]); first | done | rfl | (simp only [List.length_drop, List.length_take]; rfl)) ?_; (with_reducible refine (double_Whole.calls _ _ l0_0 _ _ l0_1 t285 t288 t289 _ ?side5 ?side1 ?side2 ?side3 ?side4 A62.out).mono ?_); (case side1 => repeat (first | exact (Kd.C_below HR0_0.out HB.out) | (with_reducible refine Kd.C_alloc ?_ _) | (with_reducible refine Kd.C_drewN ?_ _) | (with_reducible refine Kd.C_drew ?_))); (case side2 => exact HC0_0.out); (case side3 => repeat (first | exact (Kd.C_below HR0_1.out HB.out) | (with_reducible refine Kd.C_alloc ?_ _) | (with_reducible refine Kd.C_drewN ?_ _) | (with_reducible refine Kd.C_drew ?_))); (case side4 => exact HC0_1.out); (case side5 => exact Tabs.below HT.out (by repeat (first | (with_reducible first | exact HB.out | apply below_alloc | apply pw_below_drewN | apply below_drew1 | refine below_set ?_ GE259.out) | exact HB.out))); rintro e w65 ⟨rfl, hb⟩; refine ⟨_, rfl, ?_⟩; have n0_ := Aside0.mk (blk_below (g := gb259) (o := .cells #[.slice A0_0 l0_0.length c0_0, .slice A0_1 l0_1.length c0_1] 25 (0, 0)) (by (with_reducible repeat (first | refine blk_drewN ?_ _ | refine blk_drew ?_ | refine blk_alloc ?_ _)); exact BK259.out) hb); have n1_ := Aside0.mk (below_step (by repeat (first | (with_reducible first | exact HB.out | apply below_alloc | apply pw_below_drewN | apply below_drew1 | refine below_set ?_ GE259.out) | exact HB.out)) hb); clear BK259; clear HB; have BK259 := n0_; have HB := n1_; clear n0_ n1_; (try clear hb); (try clear hb2); (try clear hk); (try clear hi)))
                                             go_ret
                                             exact ⟨by first | rfl | (simp [errW_none, errW_some] <;> rfl) | (simp [*, errW_none, errW_some] <;> rfl), by repeat (first | (with_reducible first | exact HB.out | apply below_alloc | apply pw_below_drewN | apply below_drew1 | refine below_set ?_ GE259.out) | exact HB.out)⟩
                                          · as_aux_lemma =>
                                             rw [if_neg c63] at H
                                             have c63b0 : (t289 == 0) = false := beq_eq_false_iff_ne.mpr c63
                                             have c63b1 : (t289 != 0) = true := bne_iff_ne.mpr c63
                                             obtain rfl := Option.some.inj H
                                             have hcz66_0 : wc.cell? ⟨gb259, 0, none⟩ = some (.slice A0_0 l0_0.length c0_0) := (blk_cell BK259.out 0).trans rfl
                                             have hcz66_1 : wc.cell? ⟨gb259, 1, none⟩ = some (.slice A0_1 l0_1.length c0_1) := (blk_cell BK259.out 1).trans rfl
                                             have hfz66_0 := blk_frozen BK259.out 0
                                             have hfz66_1 := blk_frozen BK259.out 1
                                             go_wp2_with (first | ((with_reducible refine gate_callee (f := 23) rfl ?_); refine goesL_ (some 186) rfl rfl Tryd.func23 (by kernel_rfl) rfl #[.agg #[.slice A0_0 l0_0.length c0_0, .slice A0_1 l0_1.length c0_1], .string t285] rfl (by (try simp only [List.map_toArray, List.map_cons, List.map_nil]); first | done | rfl | (simp only [List.length_drop, List.length_take]; rfl)) ?_; (with_reducible refine (double_Whole.calls _ _ l0_0 _ _ l0_1 t285 t288 t289 _ ?side5 ?side1 ?side2 ?side3 ?side4 A62.out).mono ?_); (case side1 => repeat (first | exact (Kd.C_below HR0_0.out HB.out) | (with_reducible refine Kd.C_alloc ?_ _) | (with_reducible refine Kd.C_drewN ?_ _) | (with_reducible refine Kd.C_drew ?_))); (case side2 => exact HC0_0.out); (case side3 => repeat (first | exact (Kd.C_below HR0_1.out HB.out) | (with_reducible refine Kd.C_alloc ?_ _) | (with_reducible refine Kd.C_drewN ?_ _) | (with_reducible refine Kd.C_drew ?_))); (case side4 => exact HC0_1.out); (case side5 => exact Tabs.below HT.out (by repeat (first | (with_reducible first | exact HB.out | apply below_alloc | apply pw_below_drewN | apply below_drew1 | refine below_set ?_ GE259.out) | exact HB.out))); rintro e w67 ⟨rfl, hb⟩; refine ⟨_, rfl, ?_⟩; have n0_ := Aside0.mk (blk_below (g := gb259) (o := .cells #[.slice A0_0 l0_0.length c0_0, .slice A0_1 l0_1.length c0_1] 25 (0, 0)) (by (with_reducible repeat (first | refine blk_drewN ?_ _ | refine blk_drew ?_ | refine blk_alloc ?_ _)); exact BK259.out) hb); have n1_ := Aside0.mk (below_step (by repeat (first | (with_reducible first | exact HB.out | apply below_alloc | apply pw_below_drewN | apply below_drew1 | refine below_set ?_ GE259.out) | exact HB.out)) hb); clear BK259; clear HB; have BK259 := n0_; have HB := n1_; clear n0_ n1_; (try clear hb); (try clear hb2); (try clear hk); (try clear hi)))
                                             go_ret
                                             exact ⟨by first | rfl | (simp [errW_none, errW_some] <;> rfl) | (simp [*, errW_none, errW_some] <;> rfl), by repeat (first | (with_reducible first | exact HB.out | apply below_alloc | apply pw_below_drewN | apply below_drew1 | refine below_set ?_ GE259.out) | exact HB.out)⟩
                                       · as_aux_lemma =>
                                          rw [if_neg c61] at H
                                          have c61b0 : (a2 == 0) = false := beq_eq_false_iff_ne.mpr c61
                                          have c61b1 : (a2 != 0) = true := bne_iff_ne.mpr c61
                                          replace H := Option.bind_eq_some_iff.mp H
                                          obtain ⟨⟨t290, t291⟩, A680, H⟩ := H
                                          replace H : (if t291 = 0 then (some (t290.toList == a1.toList)) else (some false)) = some r := H
                                          have A68 := Aside0.mk A680
                                          clear A680
                                          by_cases c69 : t291 = 0
                                          · as_aux_lemma =>
                                             rw [if_pos c69] at H
                                             have c69b0 : (t291 == 0) = true := beq_iff_eq.mpr c69
                                             have c69b1 : (t291 != 0) = false := bne_eq_false_iff_eq.mpr c69
                                             clear c69
                                             obtain rfl := Option.some.inj H
                                             have hcz70_0 : wc.cell? ⟨gb259, 0, none⟩ = some (.slice A0_0 l0_0.length c0_0) := (blk_cell BK259.out 0).trans rfl
                                             have hcz70_1 : wc.cell? ⟨gb259, 1, none⟩ = some (.slice A0_1 l0_1.length c0_1) := (blk_cell BK259.out 1).trans rfl
                                             have hfz70_0 := blk_frozen BK259.out 0
                                             have hfz70_1 := blk_frozen BK259.out 1
                                             go_wp2_with (first | ((with_reducible refine gate_callee (f := 21) rfl ?_); refine goesL_ (some 200) rfl rfl Tryd.func21 (by kernel_rfl) rfl #[.agg #[.slice A0_0 l0_0.length c0_0, .slice A0_1 l0_1.length c0_1], .string t285, .int .i64 a2] rfl (by (try simp only [List.map_toArray, List.map_cons, List.map_nil]); first | done | rfl | (simp only [List.length_drop, List.length_take]; rfl)) ?_; (with_reducible refine (double_Front.calls kj55 _ _ l0_0 _ _ l0_1 t285 a2 t290 t291 _ ?side5 ?side1 ?side2 ?side3 ?side4 A68.out).mono ?_); (case side1 => repeat (first | exact (Kd.C_below HR0_0.out HB.out) | (with_reducible refine Kd.C_alloc ?_ _) | (with_reducible refine Kd.C_drewN ?_ _) | (with_reducible refine Kd.C_drew ?_))); (case side2 => exact HC0_0.out); (case side3 => repeat (first | exact (Kd.C_below HR0_1.out HB.out) | (with_reducible refine Kd.C_alloc ?_ _) | (with_reducible refine Kd.C_drewN ?_ _) | (with_reducible refine Kd.C_drew ?_))); (case side4 => exact HC0_1.out); (case side5 => exact Tabs.below HT.out (by repeat (first | (with_reducible first | exact HB.out | apply below_alloc | apply pw_below_drewN | apply below_drew1 | refine below_set ?_ GE259.out) | exact HB.out))); rintro e w71 ⟨rfl, hb⟩; refine ⟨_, rfl, ?_⟩; have n0_ := Aside0.mk (blk_below (g := gb259) (o := .cells #[.slice A0_0 l0_0.length c0_0, .slice A0_1 l0_1.length c0_1] 25 (0, 0)) (by (with_reducible repeat (first | refine blk_drewN ?_ _ | refine blk_drew ?_ | refine blk_alloc ?_ _)); exact BK259.out) hb); have n1_ := Aside0.mk (below_step (by repeat (first | (with_reducible first | exact HB.out | apply below_alloc | apply pw_below_drewN | apply below_drew1 | refine below_set ?_ GE259.out) | exact HB.out)) hb); clear BK259; clear HB; have BK259 := n0_; have HB := n1_; clear n0_ n1_; (try clear hb); (try clear hb2); (try clear hk); (try clear hi)))
                                             go_ret
                                             exact ⟨by first | rfl | (simp [errW_none, errW_some] <;> rfl) | (simp [*, errW_none, errW_some] <;> rfl), by repeat (first | (with_reducible first | exact HB.out | apply below_alloc | apply pw_below_drewN | apply below_drew1 | refine below_set ?_ GE259.out) | exact HB.out)⟩
                                          · as_aux_lemma =>
                                             rw [if_neg c69] at H
                                             have c69b0 : (t291 == 0) = false := beq_eq_false_iff_ne.mpr c69
                                             have c69b1 : (t291 != 0) = true := bne_iff_ne.mpr c69
                                             obtain rfl := Option.some.inj H
                                             have hcz72_0 : wc.cell? ⟨gb259, 0, none⟩ = some (.slice A0_0 l0_0.length c0_0) := (blk_cell BK259.out 0).trans rfl
                                             have hcz72_1 : wc.cell? ⟨gb259, 1, none⟩ = some (.slice A0_1 l0_1.length c0_1) := (blk_cell BK259.out 1).trans rfl
                                             have hfz72_0 := blk_frozen BK259.out 0
                                             have hfz72_1 := blk_frozen BK259.out 1
                                             go_wp2_with (first | ((with_reducible refine gate_callee (f := 21) rfl ?_); refine goesL_ (some 200) rfl rfl Tryd.func21 (by kernel_rfl) rfl #[.agg #[.slice A0_0 l0_0.length c0_0, .slice A0_1 l0_1.length c0_1], .string t285, .int .i64 a2] rfl (by (try simp only [List.map_toArray, List.map_cons, List.map_nil]); first | done | rfl | (simp only [List.length_drop, List.length_take]; rfl)) ?_; (with_reducible refine (double_Front.calls kj55 _ _ l0_0 _ _ l0_1 t285 a2 t290 t291 _ ?side5 ?side1 ?side2 ?side3 ?side4 A68.out).mono ?_); (case side1 => repeat (first | exact (Kd.C_below HR0_0.out HB.out) | (with_reducible refine Kd.C_alloc ?_ _) | (with_reducible refine Kd.C_drewN ?_ _) | (with_reducible refine Kd.C_drew ?_))); (case side2 => exact HC0_0.out); (case side3 => repeat (first | exact (Kd.C_below HR0_1.out HB.out) | (with_reducible refine Kd.C_alloc ?_ _) | (with_reducible refine Kd.C_drewN ?_ _) | (with_reducible refine Kd.C_drew ?_))); (case side4 => exact HC0_1.out); (case side5 => exact Tabs.below HT.out (by repeat (first | (with_reducible first | exact HB.out | apply below_alloc | apply pw_below_drewN | apply below_drew1 | refine below_set ?_ GE259.out) | exact HB.out))); rintro e w73 ⟨rfl, hb⟩; refine ⟨_, rfl, ?_⟩; have n0_ := Aside0.mk (blk_below (g := gb259) (o := .cells #[.slice A0_0 l0_0.length c0_0, .slice A0_1 l0_1.length c0_1] 25 (0, 0)) (by (with_reducible repeat (first | refine blk_drewN ?_ _ | refine blk_drew ?_ | refine blk_alloc ?_ _)); exact BK259.out) hb); have n1_ := Aside0.mk (below_step (by repeat (first | (with_reducible first | exact HB.out | apply below_alloc | apply pw_below_drewN | apply below_drew1 | refine below_set ?_ GE259.out) | exact HB.out)) hb); clear BK259; clear HB; have BK259 := n0_; have HB := n1_; clear n0_ n1_; (try clear hb); (try clear hb2); (try clear hk); (try clear hi)))
                                             go_ret
                                             exact ⟨by first | rfl | (simp [errW_none, errW_some] <;> rfl) | (simp [*, errW_none, errW_some] <;> rfl), by repeat (first | (with_reducible first | exact HB.out | apply below_alloc | apply pw_below_drewN | apply below_drew1 | refine below_set ?_ GE259.out) | exact HB.out)⟩
                  · as_aux_lemma =>
                     rw [if_neg c29] at H
                     have c29b0 : (t276 == 0) = false := beq_eq_false_iff_ne.mpr c29
                     have c29b1 : (t276 != 0) = true := bne_iff_ne.mpr c29
                     obtain rfl := Option.some.inj H
                     have hcz74_0 : wc.cell? ⟨gb259, 0, none⟩ = some (.slice A0_0 l0_0.length c0_0) := (blk_cell BK259.out 0).trans rfl
                     have hcz74_1 : wc.cell? ⟨gb259, 1, none⟩ = some (.slice A0_1 l0_1.length c0_1) := (blk_cell BK259.out 1).trans rfl
                     have hfz74_0 := blk_frozen BK259.out 0
                     have hfz74_1 := blk_frozen BK259.out 1
                     go_wp2_with (first | ((with_reducible refine gate_callee (f := 23) rfl ?_); refine goesL_ (some 108) rfl rfl Tryd.func23 (by kernel_rfl) rfl #[.agg #[.slice A0_0 l0_0.length c0_0, .slice A0_1 l0_1.length c0_1], .string a1] rfl (by (try simp only [List.map_toArray, List.map_cons, List.map_nil]); first | done | rfl | (simp only [List.length_drop, List.length_take]; rfl)) ?_; (with_reducible refine (double_Whole.calls _ _ l0_0 _ _ l0_1 a1 t275 t276 _ ?side5 ?side1 ?side2 ?side3 ?side4 A28.out).mono ?_); (case side1 => repeat (first | exact (Kd.C_below HR0_0.out HB.out) | (with_reducible refine Kd.C_alloc ?_ _) | (with_reducible refine Kd.C_drewN ?_ _) | (with_reducible refine Kd.C_drew ?_))); (case side2 => exact HC0_0.out); (case side3 => repeat (first | exact (Kd.C_below HR0_1.out HB.out) | (with_reducible refine Kd.C_alloc ?_ _) | (with_reducible refine Kd.C_drewN ?_ _) | (with_reducible refine Kd.C_drew ?_))); (case side4 => exact HC0_1.out); (case side5 => exact Tabs.below HT.out (by repeat (first | (with_reducible first | exact HB.out | apply below_alloc | apply pw_below_drewN | apply below_drew1 | refine below_set ?_ GE259.out) | exact HB.out))); rintro e w75 ⟨rfl, hb⟩; refine ⟨_, rfl, ?_⟩; have n0_ := Aside0.mk (Kd.R_below (by (with_reducible repeat (first | apply Kd.R_alloc | apply Kd.R_drewN | apply Kd.R_drew)); exact HO_8.out) hb); have n1_ := Aside0.mk (blk_below (g := gb259) (o := .cells #[.slice A0_0 l0_0.length c0_0, .slice A0_1 l0_1.length c0_1] 25 (0, 0)) (by (with_reducible repeat (first | refine blk_drewN ?_ _ | refine blk_drew ?_ | refine blk_alloc ?_ _)); exact BK259.out) hb); have n2_ := Aside0.mk (below_step (by repeat (first | (with_reducible first | exact HB.out | apply below_alloc | apply pw_below_drewN | apply below_drew1 | refine below_set ?_ GE259.out) | exact HB.out)) hb); clear HO_8; clear BK259; clear HB; have HO_8 := n0_; have BK259 := n1_; have HB := n2_; clear n0_ n1_ n2_; (try clear hb); (try clear hb2); (try clear hk); (try clear hi)))
                     go_ret
                     exact ⟨by first | rfl | (simp [errW_none, errW_some] <;> rfl) | (simp [*, errW_none, errW_some] <;> rfl), by repeat (first | (with_reducible first | exact HB.out | apply below_alloc | apply pw_below_drewN | apply below_drew1 | refine below_set ?_ GE259.out) | exact HB.out)⟩
     · as_aux_lemma =>
        rw [if_neg c7] at H
        have c7b0 : (t264 == 0) = false := beq_eq_false_iff_ne.mpr c7
        have c7b1 : (t264 != 0) = true := bne_iff_ne.mpr c7
        replace H := Option.bind_eq_some_iff.mp H
        obtain ⟨⟨t265, t266⟩, A760, H⟩ := H
        replace H : ((double_Single.f k l0_0 l0_1 a1 a2).bind fun bt267 => (if t266 = t264 then (some (bt267.2.2 == t264)) else (some false))) = some r := H
        have A76 := Aside0.mk A760
        clear A760
        replace H := Option.bind_eq_some_iff.mp H
        obtain ⟨⟨t267, t268, t269⟩, A770, H⟩ := H
        replace H : (if t266 = t264 then (some (t269 == t264)) else (some false)) = some r := H
        have A77 := Aside0.mk A770
        clear A770
        by_cases c78 : t266 = t264
        · as_aux_lemma =>
           rw [if_pos c78] at H
           have c78b0 : (t266 == t264) = true := beq_iff_eq.mpr c78
           have c78b1 : (t266 != t264) = false := bne_eq_false_iff_eq.mpr c78
           clear c78
           obtain rfl := Option.some.inj H
           go_enter Tryd.func4, Tryd.ntmps4
           go_wp2_with (first | ((with_reducible refine gate_dst (N := 3) rfl ?_); (try (refine gate_guard (by rfl) ?_; dsimp only)); refine box_event ?hg (N := 3) ?hd (cs := #[.slice A0_0 l0_0.length c0_0, .slice A0_1 l0_1.length c0_1]) (t := 25) ?hr ?_; (case hd => rfl); (case hg => rfl); (case hr => first | (go_simp; done) | (go_simp; rfl)); intro gb259 hg w79 hbox hb; have n0_ := Aside0.mk (below_step (by repeat (first | (with_reducible first | exact HB.out | apply below_alloc | apply pw_below_drewN | apply below_drew1) | exact HB.out)) hb); have n1_ := Aside0.mk (hbox); have n2_ := Aside0.mk ((by rw [hg]; exact (below_size (by repeat (first | (with_reducible first | exact HB.out | apply below_alloc | apply pw_below_drewN | apply below_drew1) | exact HB.out))) : w.heap.size ≤ gb259)); have n3_ := Aside0.mk ((by rw [hg]; exact (below_size (by repeat (first | (with_reducible first | exact HB.out | apply below_alloc | apply pw_below_drewN | apply below_drew1) | exact HB.out))) : w.heap.size ≤ gb259)); clear HB; have HB := n0_; have BK259 := n1_; have GW259 := n2_; have GE259 := n3_; clear n0_ n1_ n2_ n3_; clear hb hbox hg) | ((with_reducible refine gate_callee (f := 14) rfl ?_); refine goesL_ (some 32) rfl rfl Tryd.func14 (by kernel_rfl) rfl #[] rfl (by (try simp only [List.map_toArray, List.map_cons, List.map_nil]); first | done | rfl | (simp only [List.length_drop, List.length_take]; rfl)) ?_; (with_reducible refine (cognatelaw15_awake.calls k  true _ ?side1 A4.out).mono ?_); (case side1 => exact Tabs.below HT.out (by repeat (first | (with_reducible first | exact HB.out | apply below_alloc | apply pw_below_drewN | apply below_drew1 | refine below_set ?_ GE259.out) | exact HB.out))); rintro e w80 ⟨rfl, hb⟩; refine ⟨_, rfl, ?_⟩; have n0_ := Aside0.mk (blk_below (g := gb259) (o := .cells #[.slice A0_0 l0_0.length c0_0, .slice A0_1 l0_1.length c0_1] 25 (0, 0)) (by (with_reducible repeat (first | refine blk_drewN ?_ _ | refine blk_drew ?_ | refine blk_alloc ?_ _)); exact BK259.out) hb); have n1_ := Aside0.mk (below_step (by repeat (first | (with_reducible first | exact HB.out | apply below_alloc | apply pw_below_drewN | apply below_drew1 | refine below_set ?_ GE259.out) | exact HB.out)) hb); clear BK259; clear HB; have BK259 := n0_; have HB := n1_; clear n0_ n1_; (try clear hb); (try clear hb2); (try clear hk); (try clear hi); have hcz81_0 : w80.cell? ⟨gb259, 0, none⟩ = some (.slice A0_0 l0_0.length c0_0) := (blk_cell BK259.out 0).trans rfl; have hcz81_1 : w80.cell? ⟨gb259, 1, none⟩ = some (.slice A0_1 l0_1.length c0_1) := (blk_cell BK259.out 1).trans rfl; have hfz81_0 := blk_frozen BK259.out 0; have hfz81_1 := blk_frozen BK259.out 1) | ((with_reducible refine gate_callee (f := 20) rfl ?_); refine goesL_ (some 38) rfl rfl Tryd.func20 (by kernel_rfl) rfl #[.agg #[.slice A0_0 l0_0.length c0_0, .slice A0_1 l0_1.length c0_1], .string a1] rfl (by (try simp only [List.map_toArray, List.map_cons, List.map_nil]); first | done | rfl | (simp only [List.length_drop, List.length_take]; rfl)) ?_; (with_reducible refine (word_Letters.calls _ _ l0_0 _ _ l0_1 a1 t261 t264 _ ?side5 ?side1 ?side2 ?side3 ?side4 A6.out).mono ?_); (case side1 => repeat (first | exact (Kd.C_below HR0_0.out HB.out) | (with_reducible refine Kd.C_alloc ?_ _) | (with_reducible refine Kd.C_drewN ?_ _) | (with_reducible refine Kd.C_drew ?_))); (case side2 => exact HC0_0.out); (case side3 => repeat (first | exact (Kd.C_below HR0_1.out HB.out) | (with_reducible refine Kd.C_alloc ?_ _) | (with_reducible refine Kd.C_drewN ?_ _) | (with_reducible refine Kd.C_drew ?_))); (case side4 => exact HC0_1.out); (case side5 => exact Tabs.below HT.out (by repeat (first | (with_reducible first | exact HB.out | apply below_alloc | apply pw_below_drewN | apply below_drew1 | refine below_set ?_ GE259.out) | exact HB.out))); rintro e w82 ⟨v262, rfl, ho0, hb⟩; refine ⟨_, rfl, ?_⟩; have n0_ := Aside0.mk (Kd.R_lower ho0 (below_size (by repeat (first | (with_reducible first | exact HB.out | apply below_alloc | apply pw_below_drewN | apply below_drew1 | refine below_set ?_ GE259.out) | exact HB.out)))); have n1_ := Aside0.mk (blk_below (g := gb259) (o := .cells #[.slice A0_0 l0_0.length c0_0, .slice A0_1 l0_1.length c0_1] 25 (0, 0)) (by (with_reducible repeat (first | refine blk_drewN ?_ _ | refine blk_drew ?_ | refine blk_alloc ?_ _)); exact BK259.out) hb); have n2_ := Aside0.mk (below_step (by repeat (first | (with_reducible first | exact HB.out | apply below_alloc | apply pw_below_drewN | apply below_drew1 | refine below_set ?_ GE259.out) | exact HB.out)) hb); clear BK259; clear HB; have HO263 := n0_; have BK259 := n1_; have HB := n2_; clear n0_ n1_ n2_; (try clear hb); (try clear hb2); (try clear hk); (try clear hi); (try clear ho0); have hcz83_0 : w82.cell? ⟨gb259, 0, none⟩ = some (.slice A0_0 l0_0.length c0_0) := (blk_cell BK259.out 0).trans rfl; have hcz83_1 : w82.cell? ⟨gb259, 1, none⟩ = some (.slice A0_1 l0_1.length c0_1) := (blk_cell BK259.out 1).trans rfl; have hfz83_0 := blk_frozen BK259.out 0; have hfz83_1 := blk_frozen BK259.out 1) | ((with_reducible refine gate_callee (f := 21) rfl ?_); refine goesL_ (some 47) rfl rfl Tryd.func21 (by kernel_rfl) rfl #[.agg #[.slice A0_0 l0_0.length c0_0, .slice A0_1 l0_1.length c0_1], .string a1, .int .i64 a2] rfl (by (try simp only [List.map_toArray, List.map_cons, List.map_nil]); first | done | rfl | (simp only [List.length_drop, List.length_take]; rfl)) ?_; (with_reducible refine (double_Front.calls k _ _ l0_0 _ _ l0_1 a1 a2 t265 t266 _ ?side5 ?side1 ?side2 ?side3 ?side4 A76.out).mono ?_); (case side1 => repeat (first | exact (Kd.C_below HR0_0.out HB.out) | (with_reducible refine Kd.C_alloc ?_ _) | (with_reducible refine Kd.C_drewN ?_ _) | (with_reducible refine Kd.C_drew ?_))); (case side2 => exact HC0_0.out); (case side3 => repeat (first | exact (Kd.C_below HR0_1.out HB.out) | (with_reducible refine Kd.C_alloc ?_ _) | (with_reducible refine Kd.C_drewN ?_ _) | (with_reducible refine Kd.C_drew ?_))); (case side4 => exact HC0_1.out); (case side5 => exact Tabs.below HT.out (by repeat (first | (with_reducible first | exact HB.out | apply below_alloc | apply pw_below_drewN | apply below_drew1 | refine below_set ?_ GE259.out) | exact HB.out))); rintro e w84 ⟨rfl, hb⟩; refine ⟨_, rfl, ?_⟩; have n0_ := Aside0.mk (Kd.R_below (by (with_reducible repeat (first | apply Kd.R_alloc | apply Kd.R_drewN | apply Kd.R_drew)); exact HO263.out) hb); have n1_ := Aside0.mk (blk_below (g := gb259) (o := .cells #[.slice A0_0 l0_0.length c0_0, .slice A0_1 l0_1.length c0_1] 25 (0, 0)) (by (with_reducible repeat (first | refine blk_drewN ?_ _ | refine blk_drew ?_ | refine blk_alloc ?_ _)); exact BK259.out) hb); have n2_ := Aside0.mk (below_step (by repeat (first | (with_reducible first | exact HB.out | apply below_alloc | apply pw_below_drewN | apply below_drew1 | refine below_set ?_ GE259.out) | exact HB.out)) hb); clear HO263; clear BK259; clear HB; have HO263 := n0_; have BK259 := n1_; have HB := n2_; clear n0_ n1_ n2_; (try clear hb); (try clear hb2); (try clear hk); (try clear hi); have hcz85_0 : w84.cell? ⟨gb259, 0, none⟩ = some (.slice A0_0 l0_0.length c0_0) := (blk_cell BK259.out 0).trans rfl; have hcz85_1 : w84.cell? ⟨gb259, 1, none⟩ = some (.slice A0_1 l0_1.length c0_1) := (blk_cell BK259.out 1).trans rfl; have hfz85_0 := blk_frozen BK259.out 0; have hfz85_1 := blk_frozen BK259.out 1) | ((with_reducible refine gate_callee (f := 22) rfl ?_); refine goesL_ (some 54) rfl rfl Tryd.func22 (by kernel_rfl) rfl #[.agg #[.slice A0_0 l0_0.length c0_0, .slice A0_1 l0_1.length c0_1], .string a1, .int .i64 a2] rfl (by (try simp only [List.map_toArray, List.map_cons, List.map_nil]); first | done | rfl | (simp only [List.length_drop, List.length_take]; rfl)) ?_; (with_reducible refine (double_Single.calls k _ _ l0_0 _ _ l0_1 a1 a2 t267 t268 t269 _ ?side5 ?side1 ?side2 ?side3 ?side4 A77.out).mono ?_); (case side1 => repeat (first | exact (Kd.C_below HR0_0.out HB.out) | (with_reducible refine Kd.C_alloc ?_ _) | (with_reducible refine Kd.C_drewN ?_ _) | (with_reducible refine Kd.C_drew ?_))); (case side2 => exact HC0_0.out); (case side3 => repeat (first | exact (Kd.C_below HR0_1.out HB.out) | (with_reducible refine Kd.C_alloc ?_ _) | (with_reducible refine Kd.C_drewN ?_ _) | (with_reducible refine Kd.C_drew ?_))); (case side4 => exact HC0_1.out); (case side5 => exact Tabs.below HT.out (by repeat (first | (with_reducible first | exact HB.out | apply below_alloc | apply pw_below_drewN | apply below_drew1 | refine below_set ?_ GE259.out) | exact HB.out))); rintro e w86 ⟨rfl, hb⟩; refine ⟨_, rfl, ?_⟩; have n0_ := Aside0.mk (Kd.R_below (by (with_reducible repeat (first | apply Kd.R_alloc | apply Kd.R_drewN | apply Kd.R_drew)); exact HO263.out) hb); have n1_ := Aside0.mk (blk_below (g := gb259) (o := .cells #[.slice A0_0 l0_0.length c0_0, .slice A0_1 l0_1.length c0_1] 25 (0, 0)) (by (with_reducible repeat (first | refine blk_drewN ?_ _ | refine blk_drew ?_ | refine blk_alloc ?_ _)); exact BK259.out) hb); have n2_ := Aside0.mk (below_step (by repeat (first | (with_reducible first | exact HB.out | apply below_alloc | apply pw_below_drewN | apply below_drew1 | refine below_set ?_ GE259.out) | exact HB.out)) hb); clear HO263; clear BK259; clear HB; have HO263 := n0_; have BK259 := n1_; have HB := n2_; clear n0_ n1_ n2_; (try clear hb); (try clear hb2); (try clear hk); (try clear hi)))
           go_ret
           exact ⟨by first | rfl | (simp [errW_none, errW_some] <;> rfl) | (simp [*, errW_none, errW_some] <;> rfl), by repeat (first | (with_reducible first | exact HB.out | apply below_alloc | apply pw_below_drewN | apply below_drew1 | refine below_set ?_ GE259.out) | exact HB.out)⟩
        · as_aux_lemma =>
           rw [if_neg c78] at H
           have c78b0 : (t266 == t264) = false := beq_eq_false_iff_ne.mpr c78
           have c78b1 : (t266 != t264) = true := bne_iff_ne.mpr c78
           obtain rfl := Option.some.inj H
           go_enter Tryd.func4, Tryd.ntmps4
           go_wp2_with (first | ((with_reducible refine gate_dst (N := 3) rfl ?_); (try (refine gate_guard (by rfl) ?_; dsimp only)); refine box_event ?hg (N := 3) ?hd (cs := #[.slice A0_0 l0_0.length c0_0, .slice A0_1 l0_1.length c0_1]) (t := 25) ?hr ?_; (case hd => rfl); (case hg => rfl); (case hr => first | (go_simp; done) | (go_simp; rfl)); intro gb259 hg w87 hbox hb; have n0_ := Aside0.mk (below_step (by repeat (first | (with_reducible first | exact HB.out | apply below_alloc | apply pw_below_drewN | apply below_drew1) | exact HB.out)) hb); have n1_ := Aside0.mk (hbox); have n2_ := Aside0.mk ((by rw [hg]; exact (below_size (by repeat (first | (with_reducible first | exact HB.out | apply below_alloc | apply pw_below_drewN | apply below_drew1) | exact HB.out))) : w.heap.size ≤ gb259)); have n3_ := Aside0.mk ((by rw [hg]; exact (below_size (by repeat (first | (with_reducible first | exact HB.out | apply below_alloc | apply pw_below_drewN | apply below_drew1) | exact HB.out))) : w.heap.size ≤ gb259)); clear HB; have HB := n0_; have BK259 := n1_; have GW259 := n2_; have GE259 := n3_; clear n0_ n1_ n2_ n3_; clear hb hbox hg) | ((with_reducible refine gate_callee (f := 14) rfl ?_); refine goesL_ (some 32) rfl rfl Tryd.func14 (by kernel_rfl) rfl #[] rfl (by (try simp only [List.map_toArray, List.map_cons, List.map_nil]); first | done | rfl | (simp only [List.length_drop, List.length_take]; rfl)) ?_; (with_reducible refine (cognatelaw15_awake.calls k  true _ ?side1 A4.out).mono ?_); (case side1 => exact Tabs.below HT.out (by repeat (first | (with_reducible first | exact HB.out | apply below_alloc | apply pw_below_drewN | apply below_drew1 | refine below_set ?_ GE259.out) | exact HB.out))); rintro e w88 ⟨rfl, hb⟩; refine ⟨_, rfl, ?_⟩; have n0_ := Aside0.mk (blk_below (g := gb259) (o := .cells #[.slice A0_0 l0_0.length c0_0, .slice A0_1 l0_1.length c0_1] 25 (0, 0)) (by (with_reducible repeat (first | refine blk_drewN ?_ _ | refine blk_drew ?_ | refine blk_alloc ?_ _)); exact BK259.out) hb); have n1_ := Aside0.mk (below_step (by repeat (first | (with_reducible first | exact HB.out | apply below_alloc | apply pw_below_drewN | apply below_drew1 | refine below_set ?_ GE259.out) | exact HB.out)) hb); clear BK259; clear HB; have BK259 := n0_; have HB := n1_; clear n0_ n1_; (try clear hb); (try clear hb2); (try clear hk); (try clear hi); have hcz89_0 : w88.cell? ⟨gb259, 0, none⟩ = some (.slice A0_0 l0_0.length c0_0) := (blk_cell BK259.out 0).trans rfl; have hcz89_1 : w88.cell? ⟨gb259, 1, none⟩ = some (.slice A0_1 l0_1.length c0_1) := (blk_cell BK259.out 1).trans rfl; have hfz89_0 := blk_frozen BK259.out 0; have hfz89_1 := blk_frozen BK259.out 1) | ((with_reducible refine gate_callee (f := 20) rfl ?_); refine goesL_ (some 38) rfl rfl Tryd.func20 (by kernel_rfl) rfl #[.agg #[.slice A0_0 l0_0.length c0_0, .slice A0_1 l0_1.length c0_1], .string a1] rfl (by (try simp only [List.map_toArray, List.map_cons, List.map_nil]); first | done | rfl | (simp only [List.length_drop, List.length_take]; rfl)) ?_; (with_reducible refine (word_Letters.calls _ _ l0_0 _ _ l0_1 a1 t261 t264 _ ?side5 ?side1 ?side2 ?side3 ?side4 A6.out).mono ?_); (case side1 => repeat (first | exact (Kd.C_below HR0_0.out HB.out) | (with_reducible refine Kd.C_alloc ?_ _) | (with_reducible refine Kd.C_drewN ?_ _) | (with_reducible refine Kd.C_drew ?_))); (case side2 => exact HC0_0.out); (case side3 => repeat (first | exact (Kd.C_below HR0_1.out HB.out) | (with_reducible refine Kd.C_alloc ?_ _) | (with_reducible refine Kd.C_drewN ?_ _) | (with_reducible refine Kd.C_drew ?_))); (case side4 => exact HC0_1.out); (case side5 => exact Tabs.below HT.out (by repeat (first | (with_reducible first | exact HB.out | apply below_alloc | apply pw_below_drewN | apply below_drew1 | refine below_set ?_ GE259.out) | exact HB.out))); rintro e w90 ⟨v262, rfl, ho0, hb⟩; refine ⟨_, rfl, ?_⟩; have n0_ := Aside0.mk (Kd.R_lower ho0 (below_size (by repeat (first | (with_reducible first | exact HB.out | apply below_alloc | apply pw_below_drewN | apply below_drew1 | refine below_set ?_ GE259.out) | exact HB.out)))); have n1_ := Aside0.mk (blk_below (g := gb259) (o := .cells #[.slice A0_0 l0_0.length c0_0, .slice A0_1 l0_1.length c0_1] 25 (0, 0)) (by (with_reducible repeat (first | refine blk_drewN ?_ _ | refine blk_drew ?_ | refine blk_alloc ?_ _)); exact BK259.out) hb); have n2_ := Aside0.mk (below_step (by repeat (first | (with_reducible first | exact HB.out | apply below_alloc | apply pw_below_drewN | apply below_drew1 | refine below_set ?_ GE259.out) | exact HB.out)) hb); clear BK259; clear HB; have HO263 := n0_; have BK259 := n1_; have HB := n2_; clear n0_ n1_ n2_; (try clear hb); (try clear hb2); (try clear hk); (try clear hi); (try clear ho0); have hcz91_0 : w90.cell? ⟨gb259, 0, none⟩ = some (.slice A0_0 l0_0.length c0_0) := (blk_cell BK259.out 0).trans rfl; have hcz91_1 : w90.cell? ⟨gb259, 1, none⟩ = some (.slice A0_1 l0_1.length c0_1) := (blk_cell BK259.out 1).trans rfl; have hfz91_0 := blk_frozen BK259.out 0; have hfz91_1 := blk_frozen BK259.out 1) | ((with_reducible refine gate_callee (f := 21) rfl ?_); refine goesL_ (some 47) rfl rfl Tryd.func21 (by kernel_rfl) rfl #[.agg #[.slice A0_0 l0_0.length c0_0, .slice A0_1 l0_1.length c0_1], .string a1, .int .i64 a2] rfl (by (try simp only [List.map_toArray, List.map_cons, List.map_nil]); first | done | rfl | (simp only [List.length_drop, List.length_take]; rfl)) ?_; (with_reducible refine (double_Front.calls k _ _ l0_0 _ _ l0_1 a1 a2 t265 t266 _ ?side5 ?side1 ?side2 ?side3 ?side4 A76.out).mono ?_); (case side1 => repeat (first | exact (Kd.C_below HR0_0.out HB.out) | (with_reducible refine Kd.C_alloc ?_ _) | (with_reducible refine Kd.C_drewN ?_ _) | (with_reducible refine Kd.C_drew ?_))); (case side2 => exact HC0_0.out); (case side3 => repeat (first | exact (Kd.C_below HR0_1.out HB.out) | (with_reducible refine Kd.C_alloc ?_ _) | (with_reducible refine Kd.C_drewN ?_ _) | (with_reducible refine Kd.C_drew ?_))); (case side4 => exact HC0_1.out); (case side5 => exact Tabs.below HT.out (by repeat (first | (with_reducible first | exact HB.out | apply below_alloc | apply pw_below_drewN | apply below_drew1 | refine below_set ?_ GE259.out) | exact HB.out))); rintro e w92 ⟨rfl, hb⟩; refine ⟨_, rfl, ?_⟩; have n0_ := Aside0.mk (Kd.R_below (by (with_reducible repeat (first | apply Kd.R_alloc | apply Kd.R_drewN | apply Kd.R_drew)); exact HO263.out) hb); have n1_ := Aside0.mk (blk_below (g := gb259) (o := .cells #[.slice A0_0 l0_0.length c0_0, .slice A0_1 l0_1.length c0_1] 25 (0, 0)) (by (with_reducible repeat (first | refine blk_drewN ?_ _ | refine blk_drew ?_ | refine blk_alloc ?_ _)); exact BK259.out) hb); have n2_ := Aside0.mk (below_step (by repeat (first | (with_reducible first | exact HB.out | apply below_alloc | apply pw_below_drewN | apply below_drew1 | refine below_set ?_ GE259.out) | exact HB.out)) hb); clear HO263; clear BK259; clear HB; have HO263 := n0_; have BK259 := n1_; have HB := n2_; clear n0_ n1_ n2_; (try clear hb); (try clear hb2); (try clear hk); (try clear hi); have hcz93_0 : w92.cell? ⟨gb259, 0, none⟩ = some (.slice A0_0 l0_0.length c0_0) := (blk_cell BK259.out 0).trans rfl; have hcz93_1 : w92.cell? ⟨gb259, 1, none⟩ = some (.slice A0_1 l0_1.length c0_1) := (blk_cell BK259.out 1).trans rfl; have hfz93_0 := blk_frozen BK259.out 0; have hfz93_1 := blk_frozen BK259.out 1) | ((with_reducible refine gate_callee (f := 22) rfl ?_); refine goesL_ (some 54) rfl rfl Tryd.func22 (by kernel_rfl) rfl #[.agg #[.slice A0_0 l0_0.length c0_0, .slice A0_1 l0_1.length c0_1], .string a1, .int .i64 a2] rfl (by (try simp only [List.map_toArray, List.map_cons, List.map_nil]); first | done | rfl | (simp only [List.length_drop, List.length_take]; rfl)) ?_; (with_reducible refine (double_Single.calls k _ _ l0_0 _ _ l0_1 a1 a2 t267 t268 t269 _ ?side5 ?side1 ?side2 ?side3 ?side4 A77.out).mono ?_); (case side1 => repeat (first | exact (Kd.C_below HR0_0.out HB.out) | (with_reducible refine Kd.C_alloc ?_ _) | (with_reducible refine Kd.C_drewN ?_ _) | (with_reducible refine Kd.C_drew ?_))); (case side2 => exact HC0_0.out); (case side3 => repeat (first | exact (Kd.C_below HR0_1.out HB.out) | (with_reducible refine Kd.C_alloc ?_ _) | (with_reducible refine Kd.C_drewN ?_ _) | (with_reducible refine Kd.C_drew ?_))); (case side4 => exact HC0_1.out); (case side5 => exact Tabs.below HT.out (by repeat (first | (with_reducible first | exact HB.out | apply below_alloc | apply pw_below_drewN | apply below_drew1 | refine below_set ?_ GE259.out) | exact HB.out))); rintro e w94 ⟨rfl, hb⟩; refine ⟨_, rfl, ?_⟩; have n0_ := Aside0.mk (Kd.R_below (by (with_reducible repeat (first | apply Kd.R_alloc | apply Kd.R_drewN | apply Kd.R_drew)); exact HO263.out) hb); have n1_ := Aside0.mk (blk_below (g := gb259) (o := .cells #[.slice A0_0 l0_0.length c0_0, .slice A0_1 l0_1.length c0_1] 25 (0, 0)) (by (with_reducible repeat (first | refine blk_drewN ?_ _ | refine blk_drew ?_ | refine blk_alloc ?_ _)); exact BK259.out) hb); have n2_ := Aside0.mk (below_step (by repeat (first | (with_reducible first | exact HB.out | apply below_alloc | apply pw_below_drewN | apply below_drew1 | refine below_set ?_ GE259.out) | exact HB.out)) hb); clear HO263; clear BK259; clear HB; have HO263 := n0_; have BK259 := n1_; have HB := n2_; clear n0_ n1_ n2_; (try clear hb); (try clear hb2); (try clear hk); (try clear hi)))
           go_ret
           exact ⟨by first | rfl | (simp [errW_none, errW_some] <;> rfl) | (simp [*, errW_none, errW_some] <;> rfl), by repeat (first | (with_reducible first | exact HB.out | apply below_alloc | apply pw_below_drewN | apply below_drew1 | refine below_set ?_ GE259.out) | exact HB.out)⟩
  · as_aux_lemma =>
     replace c5 := Bool.eq_false_iff.mpr c5
     subst c5
     have H1 : (some false) = some r := by rw [if_neg (show ¬ (false = true) by decide)] at H; exact H
     clear H
     have H := H1
     clear H1
     obtain rfl := Option.some.inj H
     go_enter Tryd.func4, Tryd.ntmps4
     go_wp2_with (first | ((with_reducible refine gate_dst (N := 3) rfl ?_); (try (refine gate_guard (by rfl) ?_; dsimp only)); refine box_event ?hg (N := 3) ?hd (cs := #[.slice A0_0 l0_0.length c0_0, .slice A0_1 l0_1.length c0_1]) (t := 25) ?hr ?_; (case hd => rfl); (case hg => rfl); (case hr => first | (go_simp; done) | (go_simp; rfl)); intro gb259 hg w95 hbox hb; have n0_ := Aside0.mk (below_step (by repeat (first | (with_reducible first | exact HB.out | apply below_alloc | apply pw_below_drewN | apply below_drew1) | exact HB.out)) hb); have n1_ := Aside0.mk (hbox); have n2_ := Aside0.mk ((by rw [hg]; exact (below_size (by repeat (first | (with_reducible first | exact HB.out | apply below_alloc | apply pw_below_drewN | apply below_drew1) | exact HB.out))) : w.heap.size ≤ gb259)); have n3_ := Aside0.mk ((by rw [hg]; exact (below_size (by repeat (first | (with_reducible first | exact HB.out | apply below_alloc | apply pw_below_drewN | apply below_drew1) | exact HB.out))) : w.heap.size ≤ gb259)); clear HB; have HB := n0_; have BK259 := n1_; have GW259 := n2_; have GE259 := n3_; clear n0_ n1_ n2_ n3_; clear hb hbox hg) | ((with_reducible refine gate_callee (f := 14) rfl ?_); refine goesL_ (some 32) rfl rfl Tryd.func14 (by kernel_rfl) rfl #[] rfl (by (try simp only [List.map_toArray, List.map_cons, List.map_nil]); first | done | rfl | (simp only [List.length_drop, List.length_take]; rfl)) ?_; (with_reducible refine (cognatelaw15_awake.calls k  false _ ?side1 A4.out).mono ?_); (case side1 => exact Tabs.below HT.out (by repeat (first | (with_reducible first | exact HB.out | apply below_alloc | apply pw_below_drewN | apply below_drew1 | refine below_set ?_ GE259.out) | exact HB.out))); rintro e w96 ⟨rfl, hb⟩; refine ⟨_, rfl, ?_⟩; have n0_ := Aside0.mk (blk_below (g := gb259) (o := .cells #[.slice A0_0 l0_0.length c0_0, .slice A0_1 l0_1.length c0_1] 25 (0, 0)) (by (with_reducible repeat (first | refine blk_drewN ?_ _ | refine blk_drew ?_ | refine blk_alloc ?_ _)); exact BK259.out) hb); have n1_ := Aside0.mk (below_step (by repeat (first | (with_reducible first | exact HB.out | apply below_alloc | apply pw_below_drewN | apply below_drew1 | refine below_set ?_ GE259.out) | exact HB.out)) hb); clear BK259; clear HB; have BK259 := n0_; have HB := n1_; clear n0_ n1_; (try clear hb); (try clear hb2); (try clear hk); (try clear hi)))
     go_ret
     exact ⟨by first | rfl | (simp [errW_none, errW_some] <;> rfl) | (simp [*, errW_none, errW_some] <;> rfl), by repeat (first | (with_reducible first | exact HB.out | apply below_alloc | apply pw_below_drewN | apply below_drew1 | refine below_set ?_ GE259.out) | exact HB.out)⟩

end Go.Proofs.YtjnikjnkmcbjfaaDoor.X
