-- Written by this session's own program wip/gen/xprint.py (out of the translation, by the kit's printer taught a few things more).
import Derived.Test.YtjnikjnkmcbjfaaDoorX0
import Derived.Test.YtjnikjnkmcbjfaaDoorX14
import Derived.Test.YtjnikjnkmcbjfaaDoorX33
import Derived.Test.YtjnikjnkmcbjfaaDoorGNear
import Derived.Test.YtjnikjnkmcbjfaaDoorGOf
namespace Go.Proofs.YtjnikjnkmcbjfaaDoor.X
open Go.RowKit Go.Proofs.YtjnikjnkmcbjfaaDoorW.PrintWords Go.Proofs.YtjnikjnkmcbjfaaDoorW.PrintLast Go.Proofs.YtjnikjnkmcbjfaaDoorW.PrintMore
attribute [local go_sem] max2_int min2_int max_two min_two max_three min_three max_four min_four   -- for this text's walks alone
set_option linter.unusedVariables false
set_option linter.unusedSimpArgs false

/-! ### cognatelaw02_FeatureNearest: function 8 -/
mutual
def cognatelaw02_FeatureNearest.j0 : Nat → Int → Int → Int → Bool → List ByteArray → List (S53) → Int → Int → Int → Int → Int → Int → Option (Bool)
  | 0, _, _, _, _, _, _, _, _, _, _, _, _ => none
  | k + 1, x2, x3, x10, x54, x651000, x651001, x659000, x659001, x659002, x664000, x664001, x664002 => if x54 = true then (some false) else ((cognatelaw02_signs.f k x664000 x664001 x664002 (Go.bits .or .u32 (Go.bits .andNot .u32 x659001 x3) x2) (Go.bits .or .u32 (Go.bits .andNot .u32 x659002 x2) x3)).bind fun t664 => (cognatelaw02_FeatureNearest.l0 k x2 x3 x10 (Go.bits .or .u32 (Go.bits .andNot .u32 x659001 x3) x2) (Go.bits .or .u32 (Go.bits .andNot .u32 x659002 x2) x3) t664 false 0 x651000 x651001 x659000 x659001 x659002 x664000 x664001 x664002))
def cognatelaw02_FeatureNearest.l0 : Nat → Int → Int → Int → Int → Int → Int → Bool → Int → List ByteArray → List (S53) → Int → Int → Int → Int → Int → Int → Option (Bool)
  | 0, _, _, _, _, _, _, _, _, _, _, _, _, _, _, _, _ => none
  | k + 1, x2, x3, x10, x16, x17, x18, x19, x20, x651000, x651001, x659000, x659001, x659002, x664000, x664001, x664002 => if x20 < (x651001.length : Int) then (if 0 ≤ x20 then ((cognatelaw02_signs.f k ((rd_T53 x651001 x20).f0) ((rd_T53 x651001 x20).f1) ((rd_T53 x651001 x20).f2) x16 x17).bind fun t666 => (if x19 = true then (if t666 < x18 then (cognatelaw02_FeatureNearest.j2 k x2 x3 x10 x16 x17 x18 true x20 true x651000 x651001 x659000 x659001 x659002 x664000 x664001 x664002) else (if t666 = x18 then (cognatelaw02_FeatureNearest.j2 k x2 x3 x10 x16 x17 x18 true x20 (!true) x651000 x651001 x659000 x659001 x659002 x664000 x664001 x664002) else (cognatelaw02_FeatureNearest.j2 k x2 x3 x10 x16 x17 x18 true x20 false x651000 x651001 x659000 x659001 x659002 x664000 x664001 x664002))) else (if t666 < x18 then (cognatelaw02_FeatureNearest.j3 k x2 x3 x10 x16 x17 x18 (((rd_T53 x651001 x20).f0) == x10) x20 true x651000 x651001 x659000 x659001 x659002 x664000 x664001 x664002) else (if t666 = x18 then (cognatelaw02_FeatureNearest.j3 k x2 x3 x10 x16 x17 x18 (((rd_T53 x651001 x20).f0) == x10) x20 (!(((rd_T53 x651001 x20).f0) == x10)) x651000 x651001 x659000 x659001 x659002 x664000 x664001 x664002) else (cognatelaw02_FeatureNearest.j3 k x2 x3 x10 x16 x17 x18 (((rd_T53 x651001 x20).f0) == x10) x20 false x651000 x651001 x659000 x659001 x659002 x664000 x664001 x664002))))) else (none)) else (if x19 = true then (if (Go.bits .or .u32 x2 x3) = 0 then (if x664001 = x659001 then (some (x664002 == x659002)) else (some false)) else (some true)) else (some false))
def cognatelaw02_FeatureNearest.j2 : Nat → Int → Int → Int → Int → Int → Int → Bool → Int → Bool → List ByteArray → List (S53) → Int → Int → Int → Int → Int → Int → Option (Bool)
  | 0, _, _, _, _, _, _, _, _, _, _, _, _, _, _, _, _, _ => none
  | k + 1, x2, x3, x10, x16, x17, x18, x19, x20, x108, x651000, x651001, x659000, x659001, x659002, x664000, x664001, x664002 => if x108 = true then (some false) else (cognatelaw02_FeatureNearest.l0 k x2 x3 x10 x16 x17 x18 x19 (wrap64 (x20 + 1)) x651000 x651001 x659000 x659001 x659002 x664000 x664001 x664002)
def cognatelaw02_FeatureNearest.j3 : Nat → Int → Int → Int → Int → Int → Int → Bool → Int → Bool → List ByteArray → List (S53) → Int → Int → Int → Int → Int → Int → Option (Bool)
  | 0, _, _, _, _, _, _, _, _, _, _, _, _, _, _, _, _, _ => none
  | k + 1, x2, x3, x10, x16, x17, x18, x19, x20, x108, x651000, x651001, x659000, x659001, x659002, x664000, x664001, x664002 => if x108 = true then (some false) else (cognatelaw02_FeatureNearest.l0 k x2 x3 x10 x16 x17 x18 x19 (wrap64 (x20 + 1)) x651000 x651001 x659000 x659001 x659002 x664000 x664001 x664002)
end
def cognatelaw02_FeatureNearest.f (k : Nat) (l0_0 : List ByteArray) (l0_1 : List (S53)) (a1 : Int) (a2 : Int) (a3 : Int) : Option (Bool) := (cognatelaw02_alive.f k).bind fun t651 => (if t651 = true then ((feature_Near.f l0_0 l0_1 a1 a2 a3).bind fun bt652 => ((feature_Of.f l0_0 l0_1 a1).bind fun bt654 => (if bt652.2 = 0 then ((feature_Of.f l0_0 l0_1 bt652.1).bind fun bt659 => (if bt654.2.2.2 = 0 then (cognatelaw02_FeatureNearest.j0 k a2 a3 bt652.1 (bt659.2.2.2 != 0) l0_0 l0_1 bt654.1 bt654.2.1 bt654.2.2.1 bt659.1 bt659.2.1 bt659.2.2.1) else (cognatelaw02_FeatureNearest.j0 k a2 a3 bt652.1 true l0_0 l0_1 bt654.1 bt654.2.1 bt654.2.2.1 bt659.1 bt659.2.1 bt659.2.2.1))) else (some (bt652.1 == 0))))) else (some false))
theorem cognatelaw02_FeatureNearest.mono_l : ∀ k, (∀ y0 y1 y2 y3 y4 y5 y6 y7 y8 y9 y10 y11, LeO (cognatelaw02_FeatureNearest.j0 k y0 y1 y2 y3 y4 y5 y6 y7 y8 y9 y10 y11) (cognatelaw02_FeatureNearest.j0 (k + 1) y0 y1 y2 y3 y4 y5 y6 y7 y8 y9 y10 y11)) ∧ (∀ y0 y1 y2 y3 y4 y5 y6 y7 y8 y9 y10 y11 y12 y13 y14 y15, LeO (cognatelaw02_FeatureNearest.l0 k y0 y1 y2 y3 y4 y5 y6 y7 y8 y9 y10 y11 y12 y13 y14 y15) (cognatelaw02_FeatureNearest.l0 (k + 1) y0 y1 y2 y3 y4 y5 y6 y7 y8 y9 y10 y11 y12 y13 y14 y15)) ∧ (∀ y0 y1 y2 y3 y4 y5 y6 y7 y8 y9 y10 y11 y12 y13 y14 y15 y16, LeO (cognatelaw02_FeatureNearest.j2 k y0 y1 y2 y3 y4 y5 y6 y7 y8 y9 y10 y11 y12 y13 y14 y15 y16) (cognatelaw02_FeatureNearest.j2 (k + 1) y0 y1 y2 y3 y4 y5 y6 y7 y8 y9 y10 y11 y12 y13 y14 y15 y16)) ∧ (∀ y0 y1 y2 y3 y4 y5 y6 y7 y8 y9 y10 y11 y12 y13 y14 y15 y16, LeO (cognatelaw02_FeatureNearest.j3 k y0 y1 y2 y3 y4 y5 y6 y7 y8 y9 y10 y11 y12 y13 y14 y15 y16) (cognatelaw02_FeatureNearest.j3 (k + 1) y0 y1 y2 y3 y4 y5 y6 y7 y8 y9 y10 y11 y12 y13 y14 y15 y16))
  | 0 => ⟨fun _ _ _ _ _ _ _ _ _ _ _ _ r h => by simp [cognatelaw02_FeatureNearest.j0] at h, fun _ _ _ _ _ _ _ _ _ _ _ _ _ _ _ _ r h => by simp [cognatelaw02_FeatureNearest.l0] at h, fun _ _ _ _ _ _ _ _ _ _ _ _ _ _ _ _ _ r h => by simp [cognatelaw02_FeatureNearest.j2] at h, fun _ _ _ _ _ _ _ _ _ _ _ _ _ _ _ _ _ r h => by simp [cognatelaw02_FeatureNearest.j3] at h⟩
  | k + 1 => by
    obtain ⟨ih0, ih1, ih2, ih3⟩ := cognatelaw02_FeatureNearest.mono_l k
    refine ⟨?_, ?_, ?_, ?_⟩
    · intro y0 y1 y2 y3 y4 y5 y6 y7 y8 y9 y10 y11
      unfold cognatelaw02_FeatureNearest.j0
      repeat' first
      | (with_reducible exact ih0 _ _ _ _ _ _ _ _ _ _ _ _)
      | (with_reducible exact ih1 _ _ _ _ _ _ _ _ _ _ _ _ _ _ _ _)
      | (with_reducible exact ih2 _ _ _ _ _ _ _ _ _ _ _ _ _ _ _ _ _)
      | (with_reducible exact ih3 _ _ _ _ _ _ _ _ _ _ _ _ _ _ _ _ _)
      | (with_reducible exact cognatelaw02_alive.mono _)
      | (with_reducible exact cognatelaw02_signs.mono _ _ _ _ _ _)
      | (with_reducible exact LeO.refl _)
      | (with_reducible exact LeO.none _)
      | (with_reducible refine LeO.ite ?_ ?_)
      | (with_reducible refine LeO.bind ?_ (fun _ => ?_))
      | exact ih0 _ _ _ _ _ _ _ _ _ _ _ _
      | exact ih1 _ _ _ _ _ _ _ _ _ _ _ _ _ _ _ _
      | exact ih2 _ _ _ _ _ _ _ _ _ _ _ _ _ _ _ _ _
      | exact ih3 _ _ _ _ _ _ _ _ _ _ _ _ _ _ _ _ _
      | exact cognatelaw02_alive.mono _
      | exact cognatelaw02_signs.mono _ _ _ _ _ _
      | exact LeO.none _
      | refine LeO.ite ?_ ?_
      | refine LeO.bind ?_ (fun _ => ?_)
    · intro y0 y1 y2 y3 y4 y5 y6 y7 y8 y9 y10 y11 y12 y13 y14 y15
      unfold cognatelaw02_FeatureNearest.l0
      repeat' first
      | (with_reducible exact ih0 _ _ _ _ _ _ _ _ _ _ _ _)
      | (with_reducible exact ih1 _ _ _ _ _ _ _ _ _ _ _ _ _ _ _ _)
      | (with_reducible exact ih2 _ _ _ _ _ _ _ _ _ _ _ _ _ _ _ _ _)
      | (with_reducible exact ih3 _ _ _ _ _ _ _ _ _ _ _ _ _ _ _ _ _)
      | (with_reducible exact cognatelaw02_alive.mono _)
      | (with_reducible exact cognatelaw02_signs.mono _ _ _ _ _ _)
      | (with_reducible exact LeO.refl _)
      | (with_reducible exact LeO.none _)
      | (with_reducible refine LeO.ite ?_ ?_)
      | (with_reducible refine LeO.bind ?_ (fun _ => ?_))
      | exact ih0 _ _ _ _ _ _ _ _ _ _ _ _
      | exact ih1 _ _ _ _ _ _ _ _ _ _ _ _ _ _ _ _
      | exact ih2 _ _ _ _ _ _ _ _ _ _ _ _ _ _ _ _ _
      | exact ih3 _ _ _ _ _ _ _ _ _ _ _ _ _ _ _ _ _
      | exact cognatelaw02_alive.mono _
      | exact cognatelaw02_signs.mono _ _ _ _ _ _
      | exact LeO.none _
      | refine LeO.ite ?_ ?_
      | refine LeO.bind ?_ (fun _ => ?_)
    · intro y0 y1 y2 y3 y4 y5 y6 y7 y8 y9 y10 y11 y12 y13 y14 y15 y16
      unfold cognatelaw02_FeatureNearest.j2
      repeat' first
      | (with_reducible exact ih0 _ _ _ _ _ _ _ _ _ _ _ _)
      | (with_reducible exact ih1 _ _ _ _ _ _ _ _ _ _ _ _ _ _ _ _)
      | (with_reducible exact ih2 _ _ _ _ _ _ _ _ _ _ _ _ _ _ _ _ _)
      | (with_reducible exact ih3 _ _ _ _ _ _ _ _ _ _ _ _ _ _ _ _ _)
      | (with_reducible exact cognatelaw02_alive.mono _)
      | (with_reducible exact cognatelaw02_signs.mono _ _ _ _ _ _)
      | (with_reducible exact LeO.refl _)
      | (with_reducible exact LeO.none _)
      | (with_reducible refine LeO.ite ?_ ?_)
      | (with_reducible refine LeO.bind ?_ (fun _ => ?_))
      | exact ih0 _ _ _ _ _ _ _ _ _ _ _ _
      | exact ih1 _ _ _ _ _ _ _ _ _ _ _ _ _ _ _ _
      | exact ih2 _ _ _ _ _ _ _ _ _ _ _ _ _ _ _ _ _
      | exact ih3 _ _ _ _ _ _ _ _ _ _ _ _ _ _ _ _ _
      | exact cognatelaw02_alive.mono _
      | exact cognatelaw02_signs.mono _ _ _ _ _ _
      | exact LeO.none _
      | refine LeO.ite ?_ ?_
      | refine LeO.bind ?_ (fun _ => ?_)
    · intro y0 y1 y2 y3 y4 y5 y6 y7 y8 y9 y10 y11 y12 y13 y14 y15 y16
      unfold cognatelaw02_FeatureNearest.j3
      repeat' first
      | (with_reducible exact ih0 _ _ _ _ _ _ _ _ _ _ _ _)
      | (with_reducible exact ih1 _ _ _ _ _ _ _ _ _ _ _ _ _ _ _ _)
      | (with_reducible exact ih2 _ _ _ _ _ _ _ _ _ _ _ _ _ _ _ _ _)
      | (with_reducible exact ih3 _ _ _ _ _ _ _ _ _ _ _ _ _ _ _ _ _)
      | (with_reducible exact cognatelaw02_alive.mono _)
      | (with_reducible exact cognatelaw02_signs.mono _ _ _ _ _ _)
      | (with_reducible exact LeO.refl _)
      | (with_reducible exact LeO.none _)
      | (with_reducible refine LeO.ite ?_ ?_)
      | (with_reducible refine LeO.bind ?_ (fun _ => ?_))
      | exact ih0 _ _ _ _ _ _ _ _ _ _ _ _
      | exact ih1 _ _ _ _ _ _ _ _ _ _ _ _ _ _ _ _
      | exact ih2 _ _ _ _ _ _ _ _ _ _ _ _ _ _ _ _ _
      | exact ih3 _ _ _ _ _ _ _ _ _ _ _ _ _ _ _ _ _
      | exact cognatelaw02_alive.mono _
      | exact cognatelaw02_signs.mono _ _ _ _ _ _
      | exact LeO.none _
      | refine LeO.ite ?_ ?_
      | refine LeO.bind ?_ (fun _ => ?_)
theorem cognatelaw02_FeatureNearest.mono : ∀ a0 a1 a2 a3 a4 k, LeO (cognatelaw02_FeatureNearest.f k a0 a1 a2 a3 a4) (cognatelaw02_FeatureNearest.f (k + 1) a0 a1 a2 a3 a4) := by
  intro a0 a1 a2 a3 a4 k
  obtain ⟨ih0, ih1, ih2, ih3⟩ := cognatelaw02_FeatureNearest.mono_l k
  unfold cognatelaw02_FeatureNearest.f
  repeat' first
      | (with_reducible exact ih0 _ _ _ _ _ _ _ _ _ _ _ _)
      | (with_reducible exact ih1 _ _ _ _ _ _ _ _ _ _ _ _ _ _ _ _)
      | (with_reducible exact ih2 _ _ _ _ _ _ _ _ _ _ _ _ _ _ _ _ _)
      | (with_reducible exact ih3 _ _ _ _ _ _ _ _ _ _ _ _ _ _ _ _ _)
      | (with_reducible exact cognatelaw02_alive.mono _)
      | (with_reducible exact cognatelaw02_signs.mono _ _ _ _ _ _)
      | (with_reducible exact LeO.refl _)
      | (with_reducible exact LeO.none _)
      | (with_reducible refine LeO.ite ?_ ?_)
      | (with_reducible refine LeO.bind ?_ (fun _ => ?_))
      | exact ih0 _ _ _ _ _ _ _ _ _ _ _ _
      | exact ih1 _ _ _ _ _ _ _ _ _ _ _ _ _ _ _ _
      | exact ih2 _ _ _ _ _ _ _ _ _ _ _ _ _ _ _ _ _
      | exact ih3 _ _ _ _ _ _ _ _ _ _ _ _ _ _ _ _ _
      | exact cognatelaw02_alive.mono _
      | exact cognatelaw02_signs.mono _ _ _ _ _ _
      | exact LeO.none _
      | refine LeO.ite ?_ ?_
      | refine LeO.bind ?_ (fun _ => ?_)
set_option maxHeartbeats 8000000 in
set_option maxRecDepth 100000 in
theorem cognatelaw02_FeatureNearest.calls (k : Nat) (A0_0 : Option Addr) (c0_0 : Nat) (l0_0 : List ByteArray) (A0_1 : Option Addr) (c0_1 : Nat) (l0_1 : List (S53)) (a1 : Int) (a2 : Int) (a3 : Int) (r : Bool) (w : World) (hr0_0 : Kd.C Kd.string w A0_0 l0_0.length l0_0) (hc0_0 : l0_0.length ≤ c0_0) (hr0_1 : Kd.C k53 w A0_1 l0_1.length l0_1) (hc0_1 : l0_1.length ≤ c0_1) (h : cognatelaw02_FeatureNearest.f k l0_0 l0_1 a1 a2 a3 = some r) :
    Calls Tryd.prog 8 #[.agg #[.slice A0_0 l0_0.length c0_0, .slice A0_1 l0_1.length c0_1], .int .i32 a1, .int .u32 a2, .int .u32 a3] w fun e w' => e = .returned (.bool r) ∧ Below w.heap.size w w' := by
  have hu25 := Tryd.underlying25
  have hu53 := Tryd.underlying53
  have HR0_0 := Aside0.mk hr0_0
  have HC0_0 := Aside0.mk hc0_0
  clear hr0_0 hc0_0
  have HR0_1 := Aside0.mk hr0_1
  have HC0_1 := Aside0.mk hc0_1
  clear hr0_1 hc0_1
  have HB := Aside0.mk (Below.refl w.heap.size w)
  have H : ((cognatelaw02_alive.f k).bind fun t651 => (if t651 = true then ((feature_Near.f l0_0 l0_1 a1 a2 a3).bind fun bt652 => ((feature_Of.f l0_0 l0_1 a1).bind fun bt654 => (if bt652.2 = 0 then ((feature_Of.f l0_0 l0_1 bt652.1).bind fun bt659 => (if bt654.2.2.2 = 0 then (cognatelaw02_FeatureNearest.j0 k a2 a3 bt652.1 (bt659.2.2.2 != 0) l0_0 l0_1 bt654.1 bt654.2.1 bt654.2.2.1 bt659.1 bt659.2.1 bt659.2.2.1) else (cognatelaw02_FeatureNearest.j0 k a2 a3 bt652.1 true l0_0 l0_1 bt654.1 bt654.2.1 bt654.2.2.1 bt659.1 bt659.2.1 bt659.2.2.1))) else (some (bt652.1 == 0))))) else (some false))) = some r := h
  clear h
  replace H := Option.bind_eq_some_iff.mp H
  obtain ⟨t651, A50, H⟩ := H
  replace H : (if t651 = true then ((feature_Near.f l0_0 l0_1 a1 a2 a3).bind fun bt652 => ((feature_Of.f l0_0 l0_1 a1).bind fun bt654 => (if bt652.2 = 0 then ((feature_Of.f l0_0 l0_1 bt652.1).bind fun bt659 => (if bt654.2.2.2 = 0 then (cognatelaw02_FeatureNearest.j0 k a2 a3 bt652.1 (bt659.2.2.2 != 0) l0_0 l0_1 bt654.1 bt654.2.1 bt654.2.2.1 bt659.1 bt659.2.1 bt659.2.2.1) else (cognatelaw02_FeatureNearest.j0 k a2 a3 bt652.1 true l0_0 l0_1 bt654.1 bt654.2.1 bt654.2.2.1 bt659.1 bt659.2.1 bt659.2.2.1))) else (some (bt652.1 == 0))))) else (some false)) = some r := H
  have A5 := Aside0.mk A50
  clear A50
  by_cases c6 : t651 = true
  · subst c6
    have H1 : ((feature_Near.f l0_0 l0_1 a1 a2 a3).bind fun bt652 => ((feature_Of.f l0_0 l0_1 a1).bind fun bt654 => (if bt652.2 = 0 then ((feature_Of.f l0_0 l0_1 bt652.1).bind fun bt659 => (if bt654.2.2.2 = 0 then (cognatelaw02_FeatureNearest.j0 k a2 a3 bt652.1 (bt659.2.2.2 != 0) l0_0 l0_1 bt654.1 bt654.2.1 bt654.2.2.1 bt659.1 bt659.2.1 bt659.2.2.1) else (cognatelaw02_FeatureNearest.j0 k a2 a3 bt652.1 true l0_0 l0_1 bt654.1 bt654.2.1 bt654.2.2.1 bt659.1 bt659.2.1 bt659.2.2.1))) else (some (bt652.1 == 0))))) = some r := by rw [if_pos rfl] at H; exact H
    clear H
    have H := H1
    clear H1
    replace H := Option.bind_eq_some_iff.mp H
    obtain ⟨⟨t652, t653⟩, A70, H⟩ := H
    replace H : ((feature_Of.f l0_0 l0_1 a1).bind fun bt654 => (if t653 = 0 then ((feature_Of.f l0_0 l0_1 t652).bind fun bt659 => (if bt654.2.2.2 = 0 then (cognatelaw02_FeatureNearest.j0 k a2 a3 t652 (bt659.2.2.2 != 0) l0_0 l0_1 bt654.1 bt654.2.1 bt654.2.2.1 bt659.1 bt659.2.1 bt659.2.2.1) else (cognatelaw02_FeatureNearest.j0 k a2 a3 t652 true l0_0 l0_1 bt654.1 bt654.2.1 bt654.2.2.1 bt659.1 bt659.2.1 bt659.2.2.1))) else (some (t652 == 0)))) = some r := H
    have A7 := Aside0.mk A70
    clear A70
    replace H := Option.bind_eq_some_iff.mp H
    obtain ⟨⟨t654, t655, t656, t657⟩, A80, H⟩ := H
    replace H : (if t653 = 0 then ((feature_Of.f l0_0 l0_1 t652).bind fun bt659 => (if t657 = 0 then (cognatelaw02_FeatureNearest.j0 k a2 a3 t652 (bt659.2.2.2 != 0) l0_0 l0_1 t654 t655 t656 bt659.1 bt659.2.1 bt659.2.2.1) else (cognatelaw02_FeatureNearest.j0 k a2 a3 t652 true l0_0 l0_1 t654 t655 t656 bt659.1 bt659.2.1 bt659.2.2.1))) else (some (t652 == 0))) = some r := H
    have A8 := Aside0.mk A80
    clear A80
    by_cases c9 : t653 = 0
    · rw [if_pos c9] at H
      have c9b0 : (t653 == 0) = true := beq_iff_eq.mpr c9
      have c9b1 : (t653 != 0) = false := bne_eq_false_iff_eq.mpr c9
      clear c9
      replace H := Option.bind_eq_some_iff.mp H
      obtain ⟨⟨t659, t660, t661, t662⟩, A100, H⟩ := H
      replace H : (if t657 = 0 then (cognatelaw02_FeatureNearest.j0 k a2 a3 t652 (t662 != 0) l0_0 l0_1 t654 t655 t656 t659 t660 t661) else (cognatelaw02_FeatureNearest.j0 k a2 a3 t652 true l0_0 l0_1 t654 t655 t656 t659 t660 t661)) = some r := H
      have A10 := Aside0.mk A100
      clear A100
      have HC11 := Aside0.mk H
      clear H
      go_enter Tryd.func8, Tryd.ntmps8
      go_upto_region 9 with (first | ((with_reducible refine gate_dst (N := 4) rfl ?_); refine box_event ?hg (N := 4) ?hd (cs := #[.slice A0_0 l0_0.length c0_0, .slice A0_1 l0_1.length c0_1]) (t := 25) ?hr ?_; (case hd => rfl); (case hg => rfl); (case hr => first | (go_simp; done) | (go_simp; rfl)); intro gb650 hg w12 hbox hb; have n0_ := Aside0.mk (below_step (by repeat (first | (with_reducible first | exact HB.out | apply below_alloc | apply pw_below_drewN | apply below_drew1) | exact HB.out)) hb); have n1_ := Aside0.mk (hbox); have n2_ := Aside0.mk ((by rw [hg]; exact (below_size (by repeat (first | (with_reducible first | exact HB.out | apply below_alloc | apply pw_below_drewN | apply below_drew1) | exact HB.out))) : w.heap.size ≤ gb650)); have n3_ := Aside0.mk ((by rw [hg]; exact (below_size (by repeat (first | (with_reducible first | exact HB.out | apply below_alloc | apply pw_below_drewN | apply below_drew1) | exact HB.out))) : w.heap.size ≤ gb650)); clear HB; have HB := n0_; have BK650 := n1_; have GW650 := n2_; have GE650 := n3_; clear n0_ n1_ n2_ n3_; clear hb hbox hg) | ((with_reducible refine gate_callee (f := 25) rfl ?_); refine goesL_ (some 22) rfl rfl Tryd.func25 (by kernel_rfl) rfl #[] rfl (by (try simp only [List.map_toArray, List.map_cons, List.map_nil]); first | done | rfl | (simp only [List.length_drop, List.length_take]; rfl)) ?_; (with_reducible refine (cognatelaw02_alive.calls k  true _ A5.out).mono ?_); rintro e w13 ⟨rfl, hb⟩; refine ⟨_, rfl, ?_⟩; have n0_ := Aside0.mk (blk_below (g := gb650) (o := .cells #[.slice A0_0 l0_0.length c0_0, .slice A0_1 l0_1.length c0_1] 25 (0, 0)) (by (with_reducible repeat (first | refine blk_drewN ?_ _ | refine blk_drew ?_ | refine blk_alloc ?_ _)); exact BK650.out) hb); have n1_ := Aside0.mk (below_step (by repeat (first | (with_reducible first | exact HB.out | apply below_alloc | apply pw_below_drewN | apply below_drew1 | refine below_set ?_ GE650.out) | exact HB.out)) hb); clear BK650; clear HB; have BK650 := n0_; have HB := n1_; clear n0_ n1_; (try clear hb); (try clear hb2); (try clear hk); (try clear hi); have hcz14_0 : w13.cell? ⟨gb650, 0, none⟩ = some (.slice A0_0 l0_0.length c0_0) := (blk_cell BK650.out 0).trans rfl; have hcz14_1 : w13.cell? ⟨gb650, 1, none⟩ = some (.slice A0_1 l0_1.length c0_1) := (blk_cell BK650.out 1).trans rfl; have hfz14_0 := blk_frozen BK650.out 0; have hfz14_1 := blk_frozen BK650.out 1) | ((with_reducible refine gate_callee (f := 34) rfl ?_); refine goesL_ (some 30) rfl rfl Tryd.func34 (by kernel_rfl) rfl #[.agg #[.slice A0_0 l0_0.length c0_0, .slice A0_1 l0_1.length c0_1], .int .i32 a1, .int .u32 a2, .int .u32 a3] rfl (by (try simp only [List.map_toArray, List.map_cons, List.map_nil]); first | done | rfl | (simp only [List.length_drop, List.length_take]; rfl)) ?_; (with_reducible refine (feature_Near.calls _ _ l0_0 _ _ l0_1 a1 a2 a3 t652 t653 _ ?side1 ?side2 ?side3 ?side4 A7.out).mono ?_); (case side1 => repeat (first | exact (Kd.C_below HR0_0.out HB.out) | (with_reducible refine Kd.C_alloc ?_ _) | (with_reducible refine Kd.C_drewN ?_ _) | (with_reducible refine Kd.C_drew ?_))); (case side2 => exact HC0_0.out); (case side3 => repeat (first | exact (Kd.C_below HR0_1.out HB.out) | (with_reducible refine Kd.C_alloc ?_ _) | (with_reducible refine Kd.C_drewN ?_ _) | (with_reducible refine Kd.C_drew ?_))); (case side4 => exact HC0_1.out); rintro e w15 ⟨rfl, hb⟩; refine ⟨_, rfl, ?_⟩; have n0_ := Aside0.mk (blk_below (g := gb650) (o := .cells #[.slice A0_0 l0_0.length c0_0, .slice A0_1 l0_1.length c0_1] 25 (0, 0)) (by (with_reducible repeat (first | refine blk_drewN ?_ _ | refine blk_drew ?_ | refine blk_alloc ?_ _)); exact BK650.out) hb); have n1_ := Aside0.mk (below_step (by repeat (first | (with_reducible first | exact HB.out | apply below_alloc | apply pw_below_drewN | apply below_drew1 | refine below_set ?_ GE650.out) | exact HB.out)) hb); clear BK650; clear HB; have BK650 := n0_; have HB := n1_; clear n0_ n1_; (try clear hb); (try clear hb2); (try clear hk); (try clear hi); have hcz16_0 : w15.cell? ⟨gb650, 0, none⟩ = some (.slice A0_0 l0_0.length c0_0) := (blk_cell BK650.out 0).trans rfl; have hcz16_1 : w15.cell? ⟨gb650, 1, none⟩ = some (.slice A0_1 l0_1.length c0_1) := (blk_cell BK650.out 1).trans rfl; have hfz16_0 := blk_frozen BK650.out 0; have hfz16_1 := blk_frozen BK650.out 1) | ((with_reducible refine gate_callee (f := 30) rfl ?_); refine goesL_ (some 36) rfl rfl Tryd.func30 (by kernel_rfl) rfl #[.agg #[.slice A0_0 l0_0.length c0_0, .slice A0_1 l0_1.length c0_1], .int .i32 a1] rfl (by (try simp only [List.map_toArray, List.map_cons, List.map_nil]); first | done | rfl | (simp only [List.length_drop, List.length_take]; rfl)) ?_; (with_reducible refine (feature_Of.calls _ _ l0_0 _ _ l0_1 a1 t654 t655 t656 t657 _ ?side1 ?side2 ?side3 ?side4 A8.out).mono ?_); (case side1 => repeat (first | exact (Kd.C_below HR0_0.out HB.out) | (with_reducible refine Kd.C_alloc ?_ _) | (with_reducible refine Kd.C_drewN ?_ _) | (with_reducible refine Kd.C_drew ?_))); (case side2 => exact HC0_0.out); (case side3 => repeat (first | exact (Kd.C_below HR0_1.out HB.out) | (with_reducible refine Kd.C_alloc ?_ _) | (with_reducible refine Kd.C_drewN ?_ _) | (with_reducible refine Kd.C_drew ?_))); (case side4 => exact HC0_1.out); rintro e w17 ⟨rfl, hb⟩; refine ⟨_, rfl, ?_⟩; have n0_ := Aside0.mk (blk_below (g := gb650) (o := .cells #[.slice A0_0 l0_0.length c0_0, .slice A0_1 l0_1.length c0_1] 25 (0, 0)) (by (with_reducible repeat (first | refine blk_drewN ?_ _ | refine blk_drew ?_ | refine blk_alloc ?_ _)); exact BK650.out) hb); have n1_ := Aside0.mk (below_step (by repeat (first | (with_reducible first | exact HB.out | apply below_alloc | apply pw_below_drewN | apply below_drew1 | refine below_set ?_ GE650.out) | exact HB.out)) hb); clear BK650; clear HB; have BK650 := n0_; have HB := n1_; clear n0_ n1_; (try clear hb); (try clear hb2); (try clear hk); (try clear hi)) | ((with_reducible refine gate_dst (N := 12) rfl ?_); refine box_event ?hg (N := 12) ?hd (cs := #[.int .i32 0, .int .u32 0, .int .u32 0]) (t := 53) ?hr ?_; (case hd => rfl); (case hg => rfl); (case hr => first | (go_simp; done) | (go_simp; rfl)); intro gb658 hg w18 hbox hb; have n0_ := Aside0.mk (blk_below (g := gb650) (o := .cells #[.slice A0_0 l0_0.length c0_0, .slice A0_1 l0_1.length c0_1] 25 (0, 0)) (by (with_reducible repeat (first | refine blk_drewN ?_ _ | refine blk_drew ?_ | refine blk_alloc ?_ _)); exact BK650.out) hb); have n1_ := Aside0.mk (below_step (by repeat (first | (with_reducible first | exact HB.out | apply below_alloc | apply pw_below_drewN | apply below_drew1 | refine below_set ?_ GE650.out) | exact HB.out)) hb); have n2_ := Aside0.mk (hbox); have n3_ := Aside0.mk ((by rw [hg]; exact (below_size (by repeat (first | (with_reducible first | exact HB.out | apply below_alloc | apply pw_below_drewN | apply below_drew1 | refine below_set ?_ GE650.out) | exact HB.out))) : w.heap.size ≤ gb658)); have n4_ := Aside0.mk ((by rw [hg]; exact (below_size (by repeat (first | (with_reducible first | exact HB.out | apply below_alloc | apply pw_below_drewN | apply below_drew1 | refine below_set ?_ GE650.out) | exact HB.out))) : w.heap.size ≤ gb658)); have n5_ := Aside0.mk ((by rw [hg]; exact Nat.ne_of_lt (blk_lt (g := gb650) (o := .cells #[.slice A0_0 l0_0.length c0_0, .slice A0_1 l0_1.length c0_1] 25 (0, 0)) (by (with_reducible repeat (first | refine blk_drewN ?_ _ | refine blk_drew ?_ | refine blk_alloc ?_ _)); exact BK650.out)) : gb650 ≠ gb658)); have n6_ := Aside0.mk ((by rw [hg]; exact Nat.ne_of_gt (blk_lt (g := gb650) (o := .cells #[.slice A0_0 l0_0.length c0_0, .slice A0_1 l0_1.length c0_1] 25 (0, 0)) (by (with_reducible repeat (first | refine blk_drewN ?_ _ | refine blk_drew ?_ | refine blk_alloc ?_ _)); exact BK650.out)) : gb658 ≠ gb650)); clear BK650; clear HB; have BK650 := n0_; have HB := n1_; have BK658 := n2_; have GW658 := n3_; have GE658 := n4_; have NB650_658 := n5_; have NB658_650 := n6_; clear n0_ n1_ n2_ n3_ n4_ n5_ n6_; clear hb hbox hg; have hnb19 := NB658_650.out; have hnc19 := NB650_658.out; have hcz20_0 : w18.cell? ⟨gb658, 0, none⟩ = some (.int .i32 0) := (blk_cell BK658.out 0).trans rfl; have hcz20_1 : w18.cell? ⟨gb658, 1, none⟩ = some (.int .u32 0) := (blk_cell BK658.out 1).trans rfl; have hcz20_2 : w18.cell? ⟨gb658, 2, none⟩ = some (.int .u32 0) := (blk_cell BK658.out 2).trans rfl; have hfz20_0 := blk_frozen BK658.out 0; have hfz20_1 := blk_frozen BK658.out 1; have hfz20_2 := blk_frozen BK658.out 2; have hcz21_0 : w18.cell? ⟨gb650, 0, none⟩ = some (.slice A0_0 l0_0.length c0_0) := (blk_cell BK650.out 0).trans rfl; have hcz21_1 : w18.cell? ⟨gb650, 1, none⟩ = some (.slice A0_1 l0_1.length c0_1) := (blk_cell BK650.out 1).trans rfl; have hfz21_0 := blk_frozen BK650.out 0; have hfz21_1 := blk_frozen BK650.out 1) | ((with_reducible refine gate_callee (f := 30) rfl ?_); refine goesL_ (some 46) rfl rfl Tryd.func30 (by kernel_rfl) rfl #[.agg #[.slice A0_0 l0_0.length c0_0, .slice A0_1 l0_1.length c0_1], .int .i32 t652] rfl (by (try simp only [List.map_toArray, List.map_cons, List.map_nil]); first | done | rfl | (simp only [List.length_drop, List.length_take]; rfl)) ?_; (with_reducible refine (feature_Of.calls _ _ l0_0 _ _ l0_1 t652 t659 t660 t661 t662 _ ?side1 ?side2 ?side3 ?side4 A10.out).mono ?_); (case side1 => exact Kd.C_below HR0_0.out (by repeat (first | (with_reducible first | exact HB.out | apply below_alloc | apply pw_below_drewN | apply below_drew1 | refine below_set ?_ GE650.out | refine below_set ?_ GE658.out) | exact HB.out))); (case side2 => exact HC0_0.out); (case side3 => exact Kd.C_below HR0_1.out (by repeat (first | (with_reducible first | exact HB.out | apply below_alloc | apply pw_below_drewN | apply below_drew1 | refine below_set ?_ GE650.out | refine below_set ?_ GE658.out) | exact HB.out))); (case side4 => exact HC0_1.out); rintro e w22 ⟨rfl, hb⟩; refine ⟨_, rfl, ?_⟩; have n0_ := Aside0.mk (blk_below (g := gb650) (o := .cells #[.slice A0_0 l0_0.length c0_0, .slice A0_1 l0_1.length c0_1] 25 (0, 0)) (by (with_reducible repeat (first | refine blk_drewN ?_ _ | refine blk_drew ?_ | refine blk_alloc ?_ _)); refine blk_far ?_ NB650_658.out _; (with_reducible repeat (first | refine blk_drewN ?_ _ | refine blk_drew ?_ | refine blk_alloc ?_ _)); refine blk_far ?_ NB650_658.out _; (with_reducible repeat (first | refine blk_drewN ?_ _ | refine blk_drew ?_ | refine blk_alloc ?_ _)); refine blk_far ?_ NB650_658.out _; (with_reducible repeat (first | refine blk_drewN ?_ _ | refine blk_drew ?_ | refine blk_alloc ?_ _)); exact BK650.out) hb); have n1_ := Aside0.mk (blk_below (g := gb658) (o := .cells #[.int .i32 t654, .int .u32 t655, .int .u32 t656] 53 (0, 0)) (by (with_reducible repeat (first | refine blk_drewN ?_ _ | refine blk_drew ?_ | refine blk_alloc ?_ _)); refine blk_put (cs := #[.int .i32 t654, .int .u32 t655, .int .u32 0]) ?_ 2 _ rfl; (with_reducible repeat (first | refine blk_drewN ?_ _ | refine blk_drew ?_ | refine blk_alloc ?_ _)); refine blk_put (cs := #[.int .i32 t654, .int .u32 0, .int .u32 0]) ?_ 1 _ rfl; (with_reducible repeat (first | refine blk_drewN ?_ _ | refine blk_drew ?_ | refine blk_alloc ?_ _)); refine blk_put (cs := #[.int .i32 0, .int .u32 0, .int .u32 0]) ?_ 0 _ rfl; (with_reducible repeat (first | refine blk_drewN ?_ _ | refine blk_drew ?_ | refine blk_alloc ?_ _)); exact BK658.out) hb); have n2_ := Aside0.mk (below_step (by repeat (first | (with_reducible first | exact HB.out | apply below_alloc | apply pw_below_drewN | apply below_drew1 | refine below_set ?_ GE650.out | refine below_set ?_ GE658.out) | exact HB.out)) hb); clear BK650; clear BK658; clear HB; have BK650 := n0_; have BK658 := n1_; have HB := n2_; clear n0_ n1_ n2_; (try clear hb); (try clear hb2); (try clear hk); (try clear hi)) | ((with_reducible refine gate_dst (N := 14) rfl ?_); refine box_event ?hg (N := 14) ?hd (cs := #[.int .i32 0, .int .u32 0, .int .u32 0]) (t := 53) ?hr ?_; (case hd => rfl); (case hg => rfl); (case hr => first | (go_simp; done) | (go_simp; rfl)); intro gb663 hg w23 hbox hb; have n0_ := Aside0.mk (blk_below (g := gb650) (o := .cells #[.slice A0_0 l0_0.length c0_0, .slice A0_1 l0_1.length c0_1] 25 (0, 0)) (by (with_reducible repeat (first | refine blk_drewN ?_ _ | refine blk_drew ?_ | refine blk_alloc ?_ _)); exact BK650.out) hb); have n1_ := Aside0.mk (blk_below (g := gb658) (o := .cells #[.int .i32 t654, .int .u32 t655, .int .u32 t656] 53 (0, 0)) (by (with_reducible repeat (first | refine blk_drewN ?_ _ | refine blk_drew ?_ | refine blk_alloc ?_ _)); exact BK658.out) hb); have n2_ := Aside0.mk (below_step (by repeat (first | (with_reducible first | exact HB.out | apply below_alloc | apply pw_below_drewN | apply below_drew1 | refine below_set ?_ GE650.out | refine below_set ?_ GE658.out) | exact HB.out)) hb); have n3_ := Aside0.mk (hbox); have n4_ := Aside0.mk ((by rw [hg]; exact (below_size (by repeat (first | (with_reducible first | exact HB.out | apply below_alloc | apply pw_below_drewN | apply below_drew1 | refine below_set ?_ GE650.out | refine below_set ?_ GE658.out) | exact HB.out))) : w.heap.size ≤ gb663)); have n5_ := Aside0.mk ((by rw [hg]; exact (below_size (by repeat (first | (with_reducible first | exact HB.out | apply below_alloc | apply pw_below_drewN | apply below_drew1 | refine below_set ?_ GE650.out | refine below_set ?_ GE658.out) | exact HB.out))) : w.heap.size ≤ gb663)); have n6_ := Aside0.mk ((by rw [hg]; exact Nat.ne_of_lt (blk_lt (g := gb650) (o := .cells #[.slice A0_0 l0_0.length c0_0, .slice A0_1 l0_1.length c0_1] 25 (0, 0)) (by (with_reducible repeat (first | refine blk_drewN ?_ _ | refine blk_drew ?_ | refine blk_alloc ?_ _)); exact BK650.out)) : gb650 ≠ gb663)); have n7_ := Aside0.mk ((by rw [hg]; exact Nat.ne_of_gt (blk_lt (g := gb650) (o := .cells #[.slice A0_0 l0_0.length c0_0, .slice A0_1 l0_1.length c0_1] 25 (0, 0)) (by (with_reducible repeat (first | refine blk_drewN ?_ _ | refine blk_drew ?_ | refine blk_alloc ?_ _)); exact BK650.out)) : gb663 ≠ gb650)); have n8_ := Aside0.mk ((by rw [hg]; exact Nat.ne_of_lt (blk_lt (g := gb658) (o := .cells #[.int .i32 t654, .int .u32 t655, .int .u32 t656] 53 (0, 0)) (by (with_reducible repeat (first | refine blk_drewN ?_ _ | refine blk_drew ?_ | refine blk_alloc ?_ _)); exact BK658.out)) : gb658 ≠ gb663)); have n9_ := Aside0.mk ((by rw [hg]; exact Nat.ne_of_gt (blk_lt (g := gb658) (o := .cells #[.int .i32 t654, .int .u32 t655, .int .u32 t656] 53 (0, 0)) (by (with_reducible repeat (first | refine blk_drewN ?_ _ | refine blk_drew ?_ | refine blk_alloc ?_ _)); exact BK658.out)) : gb663 ≠ gb658)); clear BK650; clear BK658; clear HB; have BK650 := n0_; have BK658 := n1_; have HB := n2_; have BK663 := n3_; have GW663 := n4_; have GE663 := n5_; have NB650_663 := n6_; have NB663_650 := n7_; have NB658_663 := n8_; have NB663_658 := n9_; clear n0_ n1_ n2_ n3_ n4_ n5_ n6_ n7_ n8_ n9_; clear hb hbox hg; have hnb24 := NB663_650.out; have hnc24 := NB650_663.out; have hnb25 := NB663_658.out; have hnc25 := NB658_663.out; have hcz26_0 : w23.cell? ⟨gb663, 0, none⟩ = some (.int .i32 0) := (blk_cell BK663.out 0).trans rfl; have hcz26_1 : w23.cell? ⟨gb663, 1, none⟩ = some (.int .u32 0) := (blk_cell BK663.out 1).trans rfl; have hcz26_2 : w23.cell? ⟨gb663, 2, none⟩ = some (.int .u32 0) := (blk_cell BK663.out 2).trans rfl; have hfz26_0 := blk_frozen BK663.out 0; have hfz26_1 := blk_frozen BK663.out 1; have hfz26_2 := blk_frozen BK663.out 2))
      (try simp only [Act.put, List.setIfInBounds_toArray, List.set_cons_zero, List.set_cons_succ])
      go_cut [54] (fun v54 wc => ∃ (kq : Nat) (x54_10 : Bool), v54 = .bool x54_10 ∧ Aside0 (cognatelaw02_FeatureNearest.j0 kq a2 a3 t652 x54_10 l0_0 l0_1 t654 t655 t656 t659 t660 t661 = some r) ∧ Aside0 (kq ≤ k) ∧ Aside0 (wc.heap[gb650]? = some (.cells #[(.slice A0_0 l0_0.length c0_0), (.slice A0_1 l0_1.length c0_1)] 25 (0, 0))) ∧ Aside0 (wc.heap[gb658]? = some (.cells #[.int .i32 t654, .int .u32 t655, .int .u32 t656] 53 (0, 0))) ∧ Aside0 (wc.heap[gb663]? = some (.cells #[.int .i32 t659, .int .u32 t660, .int .u32 t661] 53 (0, 0))) ∧ Aside0 (Below w.heap.size w wc))
      case first =>
        have H := HC11.out
        clear HC11
        by_cases c27 : t657 = 0
        · rw [if_pos c27] at H
          have c27b0 : (t657 == 0) = true := beq_iff_eq.mpr c27
          have c27b1 : (t657 != 0) = false := bne_eq_false_iff_eq.mpr c27
          clear c27
          (first | rw [c27b0] | (simp only [i64_w, i32_w]; rw [c27b0]) | skip)
          have H' := Aside0.mk H
          clear H
          go_wp2
          go_meet
          case rel => exact ⟨_, ((t662 != 0)), (by first | rfl | (simp; done) | (simp [*]; done)), H', ⟨by first | omega | exact Nat.le_refl _⟩, ⟨by (with_reducible repeat (first | refine blk_drewN ?_ _ | refine blk_drew ?_ | refine blk_alloc ?_ _)); refine blk_far ?_ NB650_663.out _; (with_reducible repeat (first | refine blk_drewN ?_ _ | refine blk_drew ?_ | refine blk_alloc ?_ _)); refine blk_far ?_ NB650_663.out _; (with_reducible repeat (first | refine blk_drewN ?_ _ | refine blk_drew ?_ | refine blk_alloc ?_ _)); refine blk_far ?_ NB650_663.out _; (with_reducible repeat (first | refine blk_drewN ?_ _ | refine blk_drew ?_ | refine blk_alloc ?_ _)); exact BK650.out⟩, ⟨by (with_reducible repeat (first | refine blk_drewN ?_ _ | refine blk_drew ?_ | refine blk_alloc ?_ _)); refine blk_far ?_ NB658_663.out _; (with_reducible repeat (first | refine blk_drewN ?_ _ | refine blk_drew ?_ | refine blk_alloc ?_ _)); refine blk_far ?_ NB658_663.out _; (with_reducible repeat (first | refine blk_drewN ?_ _ | refine blk_drew ?_ | refine blk_alloc ?_ _)); refine blk_far ?_ NB658_663.out _; (with_reducible repeat (first | refine blk_drewN ?_ _ | refine blk_drew ?_ | refine blk_alloc ?_ _)); exact BK658.out⟩, ⟨by (with_reducible repeat (first | refine blk_drewN ?_ _ | refine blk_drew ?_ | refine blk_alloc ?_ _)); refine blk_put (cs := #[.int .i32 t659, .int .u32 t660, .int .u32 0]) ?_ 2 _ rfl; (with_reducible repeat (first | refine blk_drewN ?_ _ | refine blk_drew ?_ | refine blk_alloc ?_ _)); refine blk_put (cs := #[.int .i32 t659, .int .u32 0, .int .u32 0]) ?_ 1 _ rfl; (with_reducible repeat (first | refine blk_drewN ?_ _ | refine blk_drew ?_ | refine blk_alloc ?_ _)); refine blk_put (cs := #[.int .i32 0, .int .u32 0, .int .u32 0]) ?_ 0 _ rfl; (with_reducible repeat (first | refine blk_drewN ?_ _ | refine blk_drew ?_ | refine blk_alloc ?_ _)); exact BK663.out⟩, ⟨by repeat (first | (with_reducible first | exact HB.out | apply below_alloc | apply pw_below_drewN | apply below_drew1 | refine below_set ?_ GE650.out | refine below_set ?_ GE658.out | refine below_set ?_ GE663.out) | exact HB.out)⟩⟩
        · rw [if_neg c27] at H
          have c27b0 : (t657 == 0) = false := beq_eq_false_iff_ne.mpr c27
          have c27b1 : (t657 != 0) = true := bne_iff_ne.mpr c27
          (first | rw [c27b0] | (simp only [i64_w, i32_w]; rw [c27b0]) | skip)
          have H' := Aside0.mk H
          clear H
          go_wp2
          go_meet
          case rel => exact ⟨_, (true), (by first | rfl | (simp; done) | (simp [*]; done)), H', ⟨by first | omega | exact Nat.le_refl _⟩, ⟨by (with_reducible repeat (first | refine blk_drewN ?_ _ | refine blk_drew ?_ | refine blk_alloc ?_ _)); refine blk_far ?_ NB650_663.out _; (with_reducible repeat (first | refine blk_drewN ?_ _ | refine blk_drew ?_ | refine blk_alloc ?_ _)); refine blk_far ?_ NB650_663.out _; (with_reducible repeat (first | refine blk_drewN ?_ _ | refine blk_drew ?_ | refine blk_alloc ?_ _)); refine blk_far ?_ NB650_663.out _; (with_reducible repeat (first | refine blk_drewN ?_ _ | refine blk_drew ?_ | refine blk_alloc ?_ _)); exact BK650.out⟩, ⟨by (with_reducible repeat (first | refine blk_drewN ?_ _ | refine blk_drew ?_ | refine blk_alloc ?_ _)); refine blk_far ?_ NB658_663.out _; (with_reducible repeat (first | refine blk_drewN ?_ _ | refine blk_drew ?_ | refine blk_alloc ?_ _)); refine blk_far ?_ NB658_663.out _; (with_reducible repeat (first | refine blk_drewN ?_ _ | refine blk_drew ?_ | refine blk_alloc ?_ _)); refine blk_far ?_ NB658_663.out _; (with_reducible repeat (first | refine blk_drewN ?_ _ | refine blk_drew ?_ | refine blk_alloc ?_ _)); exact BK658.out⟩, ⟨by (with_reducible repeat (first | refine blk_drewN ?_ _ | refine blk_drew ?_ | refine blk_alloc ?_ _)); refine blk_put (cs := #[.int .i32 t659, .int .u32 t660, .int .u32 0]) ?_ 2 _ rfl; (with_reducible repeat (first | refine blk_drewN ?_ _ | refine blk_drew ?_ | refine blk_alloc ?_ _)); refine blk_put (cs := #[.int .i32 t659, .int .u32 0, .int .u32 0]) ?_ 1 _ rfl; (with_reducible repeat (first | refine blk_drewN ?_ _ | refine blk_drew ?_ | refine blk_alloc ?_ _)); refine blk_put (cs := #[.int .i32 0, .int .u32 0, .int .u32 0]) ?_ 0 _ rfl; (with_reducible repeat (first | refine blk_drewN ?_ _ | refine blk_drew ?_ | refine blk_alloc ?_ _)); exact BK663.out⟩, ⟨by repeat (first | (with_reducible first | exact HB.out | apply below_alloc | apply pw_below_drewN | apply below_drew1 | refine below_set ?_ GE650.out | refine below_set ?_ GE658.out | refine below_set ?_ GE663.out) | exact HB.out)⟩⟩
      case rest =>
        clear HC11
        try clear c1
        try clear c2
        try clear p2
        try clear c3
        try clear c6
        try clear c8
        try clear c9
        try clear c9b0
        try clear c9b1
        try clear c19
        try clear c24
        try clear c25
        try clear c27
        try clear c27b0
        try clear c27b1
        try clear hcz14_0
        try clear hcz14_1
        try clear hcz16_0
        try clear hcz16_1
        try clear hcz20_0
        try clear hcz20_1
        try clear hcz20_2
        try clear hcz21_0
        try clear hcz21_1
        try clear hcz26_0
        try clear hcz26_1
        try clear hcz26_2
        try clear hfz14_0
        try clear hfz14_1
        try clear hfz16_0
        try clear hfz16_1
        try clear hfz20_0
        try clear hfz20_1
        try clear hfz20_2
        try clear hfz21_0
        try clear hfz21_1
        try clear hfz26_0
        try clear hfz26_1
        try clear hfz26_2
        obtain ⟨kq, x54_10, rfl, HA, HJ10, BK650, BK658, BK663, HB⟩ := hcut
        cases kq with
        | zero => exact absurd HA.out (by simp [cognatelaw02_FeatureNearest.j0])
        | succ kj10 =>
          have H := HA.out
          clear HA
          simp only [cognatelaw02_FeatureNearest.j0] at H
          by_cases c28 : x54_10 = true
          · subst c28
            have H1 : (some false) = some r := by rw [if_pos rfl] at H; exact H
            clear H
            have H := H1
            clear H1
            obtain rfl := Option.some.inj H
            go_wp2
            go_ret
            exact ⟨by first | rfl | (simp [errW_none, errW_some] <;> rfl) | (simp [*, errW_none, errW_some] <;> rfl), by repeat (first | (with_reducible first | exact HB.out | apply below_alloc | apply pw_below_drewN | apply below_drew1 | refine below_set ?_ GE650.out | refine below_set ?_ GE658.out | refine below_set ?_ GE663.out) | exact HB.out)⟩
          · replace c28 := Bool.eq_false_iff.mpr c28
            subst c28
            have H1 : ((cognatelaw02_signs.f kj10 t659 t660 t661 (Go.bits .or .u32 (Go.bits .andNot .u32 t655 a3) a2) (Go.bits .or .u32 (Go.bits .andNot .u32 t656 a2) a3)).bind fun t664 => (cognatelaw02_FeatureNearest.l0 kj10 a2 a3 t652 (Go.bits .or .u32 (Go.bits .andNot .u32 t655 a3) a2) (Go.bits .or .u32 (Go.bits .andNot .u32 t656 a2) a3) t664 false 0 l0_0 l0_1 t654 t655 t656 t659 t660 t661)) = some r := by rw [if_neg (show ¬ (false = true) by decide)] at H; exact H
            clear H
            have H := H1
            clear H1
            replace H := Option.bind_eq_some_iff.mp H
            obtain ⟨t664, A290, H⟩ := H
            replace H : (cognatelaw02_FeatureNearest.l0 kj10 a2 a3 t652 (Go.bits .or .u32 (Go.bits .andNot .u32 t655 a3) a2) (Go.bits .or .u32 (Go.bits .andNot .u32 t656 a2) a3) t664 false 0 l0_0 l0_1 t654 t655 t656 t659 t660 t661) = some r := H
            have A29 := Aside0.mk A290
            clear A290
            have H' := Aside0.mk H
            clear H
            have hnb30 := NB658_650.out
            have hnc30 := NB650_658.out
            have hnb31 := NB658_663.out
            have hnc31 := NB663_658.out
            have hcz32_0 : wc.cell? ⟨gb658, 0, none⟩ = some (.int .i32 t654) := (blk_cell BK658.out 0).trans rfl
            have hcz32_1 : wc.cell? ⟨gb658, 1, none⟩ = some (.int .u32 t655) := (blk_cell BK658.out 1).trans rfl
            have hcz32_2 : wc.cell? ⟨gb658, 2, none⟩ = some (.int .u32 t656) := (blk_cell BK658.out 2).trans rfl
            have hfz32_0 := blk_frozen BK658.out 0
            have hfz32_1 := blk_frozen BK658.out 1
            have hfz32_2 := blk_frozen BK658.out 2
            have hnb33 := NB663_650.out
            have hnc33 := NB650_663.out
            have hcz34_0 : wc.cell? ⟨gb663, 0, none⟩ = some (.int .i32 t659) := (blk_cell BK663.out 0).trans rfl
            have hcz34_1 : wc.cell? ⟨gb663, 1, none⟩ = some (.int .u32 t660) := (blk_cell BK663.out 1).trans rfl
            have hcz34_2 : wc.cell? ⟨gb663, 2, none⟩ = some (.int .u32 t661) := (blk_cell BK663.out 2).trans rfl
            have hfz34_0 := blk_frozen BK663.out 0
            have hfz34_1 := blk_frozen BK663.out 1
            have hfz34_2 := blk_frozen BK663.out 2
            go_wp2_with (first | ((with_reducible refine gate_callee (f := 43) rfl ?_); refine goesL_ (some 70) rfl rfl Tryd.func43 (by kernel_rfl) rfl #[.agg #[.int .i32 t659, .int .u32 t660, .int .u32 t661], .int .u32 (Go.bits .or .u32 (Go.bits .andNot .u32 t655 a3) a2), .int .u32 (Go.bits .or .u32 (Go.bits .andNot .u32 t656 a2) a3)] rfl (by (try simp only [List.map_toArray, List.map_cons, List.map_nil]); first | done | rfl | (simp only [List.length_drop, List.length_take]; rfl)) ?_; (with_reducible refine (cognatelaw02_signs.calls kj10 t659 t660 t661 (Go.bits .or .u32 (Go.bits .andNot .u32 t655 a3) a2) (Go.bits .or .u32 (Go.bits .andNot .u32 t656 a2) a3) t664 _ A29.out).mono ?_); rintro e w35 ⟨rfl, hb⟩; refine ⟨_, rfl, ?_⟩; have n0_ := Aside0.mk (blk_below (g := gb650) (o := .cells #[.slice A0_0 l0_0.length c0_0, .slice A0_1 l0_1.length c0_1] 25 (0, 0)) (by (with_reducible repeat (first | refine blk_drewN ?_ _ | refine blk_drew ?_ | refine blk_alloc ?_ _)); exact BK650.out) hb); have n1_ := Aside0.mk (blk_below (g := gb658) (o := .cells #[.int .i32 t654, .int .u32 t655, .int .u32 t656] 53 (0, 0)) (by (with_reducible repeat (first | refine blk_drewN ?_ _ | refine blk_drew ?_ | refine blk_alloc ?_ _)); exact BK658.out) hb); have n2_ := Aside0.mk (blk_below (g := gb663) (o := .cells #[.int .i32 t659, .int .u32 t660, .int .u32 t661] 53 (0, 0)) (by (with_reducible repeat (first | refine blk_drewN ?_ _ | refine blk_drew ?_ | refine blk_alloc ?_ _)); exact BK663.out) hb); have n3_ := Aside0.mk (below_step (by repeat (first | (with_reducible first | exact HB.out | apply below_alloc | apply pw_below_drewN | apply below_drew1 | refine below_set ?_ GE650.out | refine below_set ?_ GE658.out | refine below_set ?_ GE663.out) | exact HB.out)) hb); clear BK650; clear BK658; clear BK663; clear HB; have BK650 := n0_; have BK658 := n1_; have BK663 := n2_; have HB := n3_; clear n0_ n1_ n2_ n3_; (try clear hb); (try clear hb2); (try clear hk); (try clear hi)))
            go_loopg [19, 20] kj10 (fun kq v19 v20 w' => ∃ (x19_2 : Bool) (x20_2 : Int), v19 = .bool x19_2 ∧ v20 = .int .i64 x20_2 ∧ Aside0 (cognatelaw02_FeatureNearest.l0 kq a2 a3 t652 (Go.bits .or .u32 (Go.bits .andNot .u32 t655 a3) a2) (Go.bits .or .u32 (Go.bits .andNot .u32 t656 a2) a3) t664 x19_2 x20_2 l0_0 l0_1 t654 t655 t656 t659 t660 t661 = some r) ∧ Aside0 (kq ≤ kj10) ∧ Aside0 (w'.heap[gb650]? = some (.cells #[(.slice A0_0 l0_0.length c0_0), (.slice A0_1 l0_1.length c0_1)] 25 (0, 0))) ∧ Aside0 (w'.heap[gb658]? = some (.cells #[.int .i32 t654, .int .u32 t655, .int .u32 t656] 53 (0, 0))) ∧ Aside0 (w'.heap[gb663]? = some (.cells #[.int .i32 t659, .int .u32 t660, .int .u32 t661] 53 (0, 0))) ∧ Aside0 (Below w.heap.size w w'))
            case atStart => exact ⟨(false), (0), (by first | rfl | (simp; done) | (simp [*]; done)), (by first | rfl | (simp; done) | (simp [*]; done)), H', ⟨Nat.le_refl _⟩, ⟨by (with_reducible repeat (first | refine blk_drewN ?_ _ | refine blk_drew ?_ | refine blk_alloc ?_ _)); exact BK650.out⟩, ⟨by (with_reducible repeat (first | refine blk_drewN ?_ _ | refine blk_drew ?_ | refine blk_alloc ?_ _)); exact BK658.out⟩, ⟨by (with_reducible repeat (first | refine blk_drewN ?_ _ | refine blk_drew ?_ | refine blk_alloc ?_ _)); exact BK663.out⟩, ⟨by repeat (first | (with_reducible first | exact HB.out | apply below_alloc | apply pw_below_drewN | apply below_drew1 | refine below_set ?_ GE650.out | refine below_set ?_ GE658.out | refine below_set ?_ GE663.out) | exact HB.out)⟩⟩
            case round =>
              clear H'
              try clear c1
              try clear c2
              try clear p2
              try clear c3
              try clear c4
              try clear c6
              try clear c8
              try clear c9
              try clear c9b0
              try clear c9b1
              try clear c19
              try clear c24
              try clear c25
              try clear c27
              try clear c27b0
              try clear c27b1
              try clear c28
              try clear c30
              try clear c31
              try clear c33
              try clear c34
              try clear hcz14_0
              try clear hcz14_1
              try clear hcz16_0
              try clear hcz16_1
              try clear hcz20_0
              try clear hcz20_1
              try clear hcz20_2
              try clear hcz21_0
              try clear hcz21_1
              try clear hcz26_0
              try clear hcz26_1
              try clear hcz26_2
              try clear hcz32_0
              try clear hcz32_1
              try clear hcz32_2
              try clear hcz34_0
              try clear hcz34_1
              try clear hcz34_2
              try clear hfz14_0
              try clear hfz14_1
              try clear hfz16_0
              try clear hfz16_1
              try clear hfz20_0
              try clear hfz20_1
              try clear hfz20_2
              try clear hfz21_0
              try clear hfz21_1
              try clear hfz26_0
              try clear hfz26_1
              try clear hfz26_2
              try clear hfz32_0
              try clear hfz32_1
              try clear hfz32_2
              try clear hfz34_0
              try clear hfz34_1
              try clear hfz34_2
              try clear p2
              obtain ⟨x19_2, x20_2, rfl, rfl, HA, HK2, BK650, BK658, BK663, HB⟩ := hrel
              cases gk with
              | zero => exact absurd HA.out (by simp [cognatelaw02_FeatureNearest.l0])
              | succ k2 =>
                have H := HA.out
                clear HA
                simp only [cognatelaw02_FeatureNearest.l0] at H
                by_cases c36 : x20_2 < (l0_1.length : Int)
                · rw [if_pos c36] at H
                  have c36b0 : decide (x20_2 < (l0_1.length : Int)) = true := decide_eq_true c36
                  clear c36
                  by_cases c37 : 0 ≤ x20_2
                  · rw [if_pos c37] at H
                    have c37b0 : decide (0 ≤ x20_2) = true := decide_eq_true c37
                    clear c37
                    replace H := Option.bind_eq_some_iff.mp H
                    obtain ⟨t666, A380, H⟩ := H
                    replace H : (if x19_2 = true then (if t666 < t664 then (cognatelaw02_FeatureNearest.j2 k2 a2 a3 t652 (Go.bits .or .u32 (Go.bits .andNot .u32 t655 a3) a2) (Go.bits .or .u32 (Go.bits .andNot .u32 t656 a2) a3) t664 true x20_2 true l0_0 l0_1 t654 t655 t656 t659 t660 t661) else (if t666 = t664 then (cognatelaw02_FeatureNearest.j2 k2 a2 a3 t652 (Go.bits .or .u32 (Go.bits .andNot .u32 t655 a3) a2) (Go.bits .or .u32 (Go.bits .andNot .u32 t656 a2) a3) t664 true x20_2 (!true) l0_0 l0_1 t654 t655 t656 t659 t660 t661) else (cognatelaw02_FeatureNearest.j2 k2 a2 a3 t652 (Go.bits .or .u32 (Go.bits .andNot .u32 t655 a3) a2) (Go.bits .or .u32 (Go.bits .andNot .u32 t656 a2) a3) t664 true x20_2 false l0_0 l0_1 t654 t655 t656 t659 t660 t661))) else (if t666 < t664 then (cognatelaw02_FeatureNearest.j3 k2 a2 a3 t652 (Go.bits .or .u32 (Go.bits .andNot .u32 t655 a3) a2) (Go.bits .or .u32 (Go.bits .andNot .u32 t656 a2) a3) t664 (((rd_T53 l0_1 x20_2).f0) == t652) x20_2 true l0_0 l0_1 t654 t655 t656 t659 t660 t661) else (if t666 = t664 then (cognatelaw02_FeatureNearest.j3 k2 a2 a3 t652 (Go.bits .or .u32 (Go.bits .andNot .u32 t655 a3) a2) (Go.bits .or .u32 (Go.bits .andNot .u32 t656 a2) a3) t664 (((rd_T53 l0_1 x20_2).f0) == t652) x20_2 (!(((rd_T53 l0_1 x20_2).f0) == t652)) l0_0 l0_1 t654 t655 t656 t659 t660 t661) else (cognatelaw02_FeatureNearest.j3 k2 a2 a3 t652 (Go.bits .or .u32 (Go.bits .andNot .u32 t655 a3) a2) (Go.bits .or .u32 (Go.bits .andNot .u32 t656 a2) a3) t664 (((rd_T53 l0_1 x20_2).f0) == t652) x20_2 false l0_0 l0_1 t654 t655 t656 t659 t660 t661)))) = some r := H
                    have A38 := Aside0.mk A380
                    clear A380
                    by_cases c39 : x19_2 = true
                    · subst c39
                      have H1 : (if t666 < t664 then (cognatelaw02_FeatureNearest.j2 k2 a2 a3 t652 (Go.bits .or .u32 (Go.bits .andNot .u32 t655 a3) a2) (Go.bits .or .u32 (Go.bits .andNot .u32 t656 a2) a3) t664 true x20_2 true l0_0 l0_1 t654 t655 t656 t659 t660 t661) else (if t666 = t664 then (cognatelaw02_FeatureNearest.j2 k2 a2 a3 t652 (Go.bits .or .u32 (Go.bits .andNot .u32 t655 a3) a2) (Go.bits .or .u32 (Go.bits .andNot .u32 t656 a2) a3) t664 true x20_2 (!true) l0_0 l0_1 t654 t655 t656 t659 t660 t661) else (cognatelaw02_FeatureNearest.j2 k2 a2 a3 t652 (Go.bits .or .u32 (Go.bits .andNot .u32 t655 a3) a2) (Go.bits .or .u32 (Go.bits .andNot .u32 t656 a2) a3) t664 true x20_2 false l0_0 l0_1 t654 t655 t656 t659 t660 t661))) = some r := by rw [if_pos rfl] at H; exact H
                      clear H
                      have H := H1
                      clear H1
                      have HC40 := Aside0.mk H
                      clear H
                      have hnb41 := NB650_658.out
                      have hnc41 := NB658_650.out
                      have hnb42 := NB650_663.out
                      have hnc42 := NB663_650.out
                      have hcz43_0 : wr.cell? ⟨gb650, 0, none⟩ = some (.slice A0_0 l0_0.length c0_0) := (blk_cell BK650.out 0).trans rfl
                      have hcz43_1 : wr.cell? ⟨gb650, 1, none⟩ = some (.slice A0_1 l0_1.length c0_1) := (blk_cell BK650.out 1).trans rfl
                      have hfz43_0 := blk_frozen BK650.out 0
                      have hfz43_1 := blk_frozen BK650.out 1
                      have p665 : 0 ≤ (x20_2 : Int) := of_decide_eq_true (by first | (with_reducible assumption) | assumption)
                      have q665 : x20_2 < (l0_1.length : Int) := of_decide_eq_true (by first | (with_reducible assumption) | assumption)
                      obtain ⟨ad665, e665, hx665_0, hx665_1, hx665_2⟩ := at_T53 HR0_1.out x20_2 p665 q665
                      cases e665
                      replace hx665_0 := (HB.out.cell (World.block_lt_of_cell? w _ hx665_0)).trans hx665_0
                      replace hx665_1 := (HB.out.cell (World.block_lt_of_cell? w _ hx665_1)).trans hx665_1
                      replace hx665_2 := (HB.out.cell (World.block_lt_of_cell? w _ hx665_2)).trans hx665_2
                      replace p665 := eq_true p665
                      replace q665 := eq_true q665
                      go_upto_region 20 with (first | ((with_reducible refine gate_callee (f := 43) rfl ?_); refine goesL_ (some 85) rfl rfl Tryd.func43 (by kernel_rfl) rfl #[.agg #[.int .i32 ((rd_T53 l0_1 x20_2).f0), .int .u32 ((rd_T53 l0_1 x20_2).f1), .int .u32 ((rd_T53 l0_1 x20_2).f2)], .int .u32 (Go.bits .or .u32 (Go.bits .andNot .u32 t655 a3) a2), .int .u32 (Go.bits .or .u32 (Go.bits .andNot .u32 t656 a2) a3)] rfl (by (try simp only [List.map_toArray, List.map_cons, List.map_nil]); first | done | rfl | (simp only [List.length_drop, List.length_take]; rfl)) ?_; (with_reducible refine (cognatelaw02_signs.calls k2 ((rd_T53 l0_1 x20_2).f0) ((rd_T53 l0_1 x20_2).f1) ((rd_T53 l0_1 x20_2).f2) (Go.bits .or .u32 (Go.bits .andNot .u32 t655 a3) a2) (Go.bits .or .u32 (Go.bits .andNot .u32 t656 a2) a3) t666 _ A38.out).mono ?_); rintro e w44 ⟨rfl, hb⟩; refine ⟨_, rfl, ?_⟩; have n0_ := Aside0.mk (blk_below (g := gb650) (o := .cells #[.slice A0_0 l0_0.length c0_0, .slice (some ad665) l0_1.length c0_1] 25 (0, 0)) (by (with_reducible repeat (first | refine blk_drewN ?_ _ | refine blk_drew ?_ | refine blk_alloc ?_ _)); exact BK650.out) hb); have n1_ := Aside0.mk (blk_below (g := gb658) (o := .cells #[.int .i32 t654, .int .u32 t655, .int .u32 t656] 53 (0, 0)) (by (with_reducible repeat (first | refine blk_drewN ?_ _ | refine blk_drew ?_ | refine blk_alloc ?_ _)); exact BK658.out) hb); have n2_ := Aside0.mk (blk_below (g := gb663) (o := .cells #[.int .i32 t659, .int .u32 t660, .int .u32 t661] 53 (0, 0)) (by (with_reducible repeat (first | refine blk_drewN ?_ _ | refine blk_drew ?_ | refine blk_alloc ?_ _)); exact BK663.out) hb); have n3_ := Aside0.mk (below_step (by repeat (first | (with_reducible first | exact HB.out | apply below_alloc | apply pw_below_drewN | apply below_drew1 | refine below_set ?_ GE650.out | refine below_set ?_ GE658.out | refine below_set ?_ GE663.out) | exact HB.out)) hb); clear BK650; clear BK658; clear BK663; clear HB; have BK650 := n0_; have BK658 := n1_; have BK663 := n2_; have HB := n3_; clear n0_ n1_ n2_ n3_; (try clear hb); (try clear hb2); (try clear hk); (try clear hi)))
                      (try simp only [Act.put, List.setIfInBounds_toArray, List.set_cons_zero, List.set_cons_succ])
                      go_cut [108] (fun v108 wc => ∃ (kq : Nat) (x108_39 : Bool), v108 = .bool x108_39 ∧ Aside0 (cognatelaw02_FeatureNearest.j2 kq a2 a3 t652 (Go.bits .or .u32 (Go.bits .andNot .u32 t655 a3) a2) (Go.bits .or .u32 (Go.bits .andNot .u32 t656 a2) a3) t664 true x20_2 x108_39 l0_0 l0_1 t654 t655 t656 t659 t660 t661 = some r) ∧ Aside0 (kq ≤ k2) ∧ Aside0 (wc.heap[gb650]? = some (.cells #[(.slice A0_0 l0_0.length c0_0), (.slice (some ad665) l0_1.length c0_1)] 25 (0, 0))) ∧ Aside0 (wc.heap[gb658]? = some (.cells #[.int .i32 t654, .int .u32 t655, .int .u32 t656] 53 (0, 0))) ∧ Aside0 (wc.heap[gb663]? = some (.cells #[.int .i32 t659, .int .u32 t660, .int .u32 t661] 53 (0, 0))) ∧ Aside0 (Below w.heap.size w wc))
                      case first =>
                        have H := HC40.out
                        clear HC40
                        by_cases c45 : t666 < t664
                        · rw [if_pos c45] at H
                          have c45b0 : decide (t666 < t664) = true := decide_eq_true c45
                          clear c45
                          (first | rw [c45b0] | (simp only [i64_w, i32_w]; rw [c45b0]) | skip)
                          have H' := Aside0.mk H
                          clear H
                          go_wp2
                          go_meet
                          case rel => exact ⟨_, (true), (by first | rfl | (simp; done) | (simp [*]; done)), H', ⟨by have := HJ10.out; have := HK2.out; first | omega | exact Nat.le_refl _⟩, ⟨by (with_reducible repeat (first | refine blk_drewN ?_ _ | refine blk_drew ?_ | refine blk_alloc ?_ _)); exact BK650.out⟩, ⟨by (with_reducible repeat (first | refine blk_drewN ?_ _ | refine blk_drew ?_ | refine blk_alloc ?_ _)); exact BK658.out⟩, ⟨by (with_reducible repeat (first | refine blk_drewN ?_ _ | refine blk_drew ?_ | refine blk_alloc ?_ _)); exact BK663.out⟩, ⟨by repeat (first | (with_reducible first | exact HB.out | apply below_alloc | apply pw_below_drewN | apply below_drew1 | refine below_set ?_ GE650.out | refine below_set ?_ GE658.out | refine below_set ?_ GE663.out) | exact HB.out)⟩⟩
                        · rw [if_neg c45] at H
                          have c45b0 : decide (t666 < t664) = false := decide_eq_false c45
                          clear c45
                          (first | rw [c45b0] | (simp only [i64_w, i32_w]; rw [c45b0]) | skip)
                          by_cases c46 : t666 = t664
                          · rw [if_pos c46] at H
                            have c46b0 : (t666 == t664) = true := beq_iff_eq.mpr c46
                            have c46b1 : (t666 != t664) = false := bne_eq_false_iff_eq.mpr c46
                            clear c46
                            have H' := Aside0.mk H
                            clear H
                            go_wp2
                            go_meet
                            case rel => exact ⟨_, (!true), (by first | rfl | (simp; done) | (simp [*]; done)), H', ⟨by have := HJ10.out; have := HK2.out; first | omega | exact Nat.le_refl _⟩, ⟨by (with_reducible repeat (first | refine blk_drewN ?_ _ | refine blk_drew ?_ | refine blk_alloc ?_ _)); exact BK650.out⟩, ⟨by (with_reducible repeat (first | refine blk_drewN ?_ _ | refine blk_drew ?_ | refine blk_alloc ?_ _)); exact BK658.out⟩, ⟨by (with_reducible repeat (first | refine blk_drewN ?_ _ | refine blk_drew ?_ | refine blk_alloc ?_ _)); exact BK663.out⟩, ⟨by repeat (first | (with_reducible first | exact HB.out | apply below_alloc | apply pw_below_drewN | apply below_drew1 | refine below_set ?_ GE650.out | refine below_set ?_ GE658.out | refine below_set ?_ GE663.out) | exact HB.out)⟩⟩
                          · rw [if_neg c46] at H
                            have c46b0 : (t666 == t664) = false := beq_eq_false_iff_ne.mpr c46
                            have c46b1 : (t666 != t664) = true := bne_iff_ne.mpr c46
                            have H' := Aside0.mk H
                            clear H
                            go_wp2
                            go_meet
                            case rel => exact ⟨_, (false), (by first | rfl | (simp; done) | (simp [*]; done)), H', ⟨by have := HJ10.out; have := HK2.out; first | omega | exact Nat.le_refl _⟩, ⟨by (with_reducible repeat (first | refine blk_drewN ?_ _ | refine blk_drew ?_ | refine blk_alloc ?_ _)); exact BK650.out⟩, ⟨by (with_reducible repeat (first | refine blk_drewN ?_ _ | refine blk_drew ?_ | refine blk_alloc ?_ _)); exact BK658.out⟩, ⟨by (with_reducible repeat (first | refine blk_drewN ?_ _ | refine blk_drew ?_ | refine blk_alloc ?_ _)); exact BK663.out⟩, ⟨by repeat (first | (with_reducible first | exact HB.out | apply below_alloc | apply pw_below_drewN | apply below_drew1 | refine below_set ?_ GE650.out | refine below_set ?_ GE658.out | refine below_set ?_ GE663.out) | exact HB.out)⟩⟩
                      case rest =>
                        clear HC40
                        try clear c1
                        try clear c2
                        try clear p2
                        try clear c3
                        try clear c4
                        try clear c6
                        try clear p6
                        try clear q6
                        try clear hx6
                        try clear c8
                        try clear c9
                        try clear c9b0
                        try clear c9b1
                        try clear c19
                        try clear c24
                        try clear c25
                        try clear c27
                        try clear c27b0
                        try clear c27b1
                        try clear c28
                        try clear c30
                        try clear c31
                        try clear c33
                        try clear c34
                        try clear c36
                        try clear c36b0
                        try clear c37
                        try clear c37b0
                        try clear c39
                        try clear c41
                        try clear c42
                        try clear c43
                        try clear c45
                        try clear c45b0
                        try clear c46
                        try clear c46b0
                        try clear c46b1
                        try clear hcz14_0
                        try clear hcz14_1
                        try clear hcz16_0
                        try clear hcz16_1
                        try clear hcz20_0
                        try clear hcz20_1
                        try clear hcz20_2
                        try clear hcz21_0
                        try clear hcz21_1
                        try clear hcz26_0
                        try clear hcz26_1
                        try clear hcz26_2
                        try clear hcz32_0
                        try clear hcz32_1
                        try clear hcz32_2
                        try clear hcz34_0
                        try clear hcz34_1
                        try clear hcz34_2
                        try clear hcz43_0
                        try clear hcz43_1
                        try clear hfz14_0
                        try clear hfz14_1
                        try clear hfz16_0
                        try clear hfz16_1
                        try clear hfz20_0
                        try clear hfz20_1
                        try clear hfz20_2
                        try clear hfz21_0
                        try clear hfz21_1
                        try clear hfz26_0
                        try clear hfz26_1
                        try clear hfz26_2
                        try clear hfz32_0
                        try clear hfz32_1
                        try clear hfz32_2
                        try clear hfz34_0
                        try clear hfz34_1
                        try clear hfz34_2
                        try clear hfz43_0
                        try clear hfz43_1
                        try clear hx665_0
                        try clear hx665_1
                        try clear hx665_2
                        try clear p2
                        try clear p665
                        try clear q665
                        obtain ⟨kq, x108_39, rfl, HA, HJ39, BK650, BK658, BK663, HB⟩ := hcut
                        cases kq with
                        | zero => exact absurd HA.out (by simp [cognatelaw02_FeatureNearest.j2])
                        | succ kj39 =>
                          have H := HA.out
                          clear HA
                          simp only [cognatelaw02_FeatureNearest.j2] at H
                          by_cases c47 : x108_39 = true
                          · subst c47
                            have H1 : (some false) = some r := by rw [if_pos rfl] at H; exact H
                            clear H
                            have H := H1
                            clear H1
                            obtain rfl := Option.some.inj H
                            go_wp2
                            go_ret
                            exact ⟨by first | rfl | (simp [errW_none, errW_some] <;> rfl) | (simp [*, errW_none, errW_some] <;> rfl), by repeat (first | (with_reducible first | exact HB.out | apply below_alloc | apply pw_below_drewN | apply below_drew1 | refine below_set ?_ GE650.out | refine below_set ?_ GE658.out | refine below_set ?_ GE663.out) | exact HB.out)⟩
                          · replace c47 := Bool.eq_false_iff.mpr c47
                            subst c47
                            have H1 : (cognatelaw02_FeatureNearest.l0 kj39 a2 a3 t652 (Go.bits .or .u32 (Go.bits .andNot .u32 t655 a3) a2) (Go.bits .or .u32 (Go.bits .andNot .u32 t656 a2) a3) t664 true (wrap64 (x20_2 + 1)) l0_0 l0_1 t654 t655 t656 t659 t660 t661) = some r := by rw [if_neg (show ¬ (false = true) by decide)] at H; exact H
                            clear H
                            have H := H1
                            clear H1
                            have H' := Aside0.mk H
                            clear H
                            go_wp2
                            go_roundg kj39
                            case measure => have := HJ10.out; have := HK2.out; have := HJ39.out; omega
                            case rel => exact ⟨(true), (wrap64 (x20_2 + 1)), (by first | rfl | (simp; done) | (simp [*]; done)), (by first | rfl | (simp; done) | (simp [*]; done)), H', ⟨by have := HJ10.out; have := HK2.out; have := HJ39.out; omega⟩, ⟨by (with_reducible repeat (first | refine blk_drewN ?_ _ | refine blk_drew ?_ | refine blk_alloc ?_ _)); exact BK650.out⟩, ⟨by (with_reducible repeat (first | refine blk_drewN ?_ _ | refine blk_drew ?_ | refine blk_alloc ?_ _)); exact BK658.out⟩, ⟨by (with_reducible repeat (first | refine blk_drewN ?_ _ | refine blk_drew ?_ | refine blk_alloc ?_ _)); exact BK663.out⟩, ⟨by repeat (first | (with_reducible first | exact HB.out | apply below_alloc | apply pw_below_drewN | apply below_drew1 | refine below_set ?_ GE650.out | refine below_set ?_ GE658.out | refine below_set ?_ GE663.out) | exact HB.out)⟩⟩
                    · replace c39 := Bool.eq_false_iff.mpr c39
                      subst c39
                      have H1 : (if t666 < t664 then (cognatelaw02_FeatureNearest.j3 k2 a2 a3 t652 (Go.bits .or .u32 (Go.bits .andNot .u32 t655 a3) a2) (Go.bits .or .u32 (Go.bits .andNot .u32 t656 a2) a3) t664 (((rd_T53 l0_1 x20_2).f0) == t652) x20_2 true l0_0 l0_1 t654 t655 t656 t659 t660 t661) else (if t666 = t664 then (cognatelaw02_FeatureNearest.j3 k2 a2 a3 t652 (Go.bits .or .u32 (Go.bits .andNot .u32 t655 a3) a2) (Go.bits .or .u32 (Go.bits .andNot .u32 t656 a2) a3) t664 (((rd_T53 l0_1 x20_2).f0) == t652) x20_2 (!(((rd_T53 l0_1 x20_2).f0) == t652)) l0_0 l0_1 t654 t655 t656 t659 t660 t661) else (cognatelaw02_FeatureNearest.j3 k2 a2 a3 t652 (Go.bits .or .u32 (Go.bits .andNot .u32 t655 a3) a2) (Go.bits .or .u32 (Go.bits .andNot .u32 t656 a2) a3) t664 (((rd_T53 l0_1 x20_2).f0) == t652) x20_2 false l0_0 l0_1 t654 t655 t656 t659 t660 t661))) = some r := by rw [if_neg (show ¬ (false = true) by decide)] at H; exact H
                      clear H
                      have H := H1
                      clear H1
                      have HC48 := Aside0.mk H
                      clear H
                      have hnb49 := NB650_658.out
                      have hnc49 := NB658_650.out
                      have hnb50 := NB650_663.out
                      have hnc50 := NB663_650.out
                      have hcz51_0 : wr.cell? ⟨gb650, 0, none⟩ = some (.slice A0_0 l0_0.length c0_0) := (blk_cell BK650.out 0).trans rfl
                      have hcz51_1 : wr.cell? ⟨gb650, 1, none⟩ = some (.slice A0_1 l0_1.length c0_1) := (blk_cell BK650.out 1).trans rfl
                      have hfz51_0 := blk_frozen BK650.out 0
                      have hfz51_1 := blk_frozen BK650.out 1
                      have p665 : 0 ≤ (x20_2 : Int) := of_decide_eq_true (by first | (with_reducible assumption) | assumption)
                      have q665 : x20_2 < (l0_1.length : Int) := of_decide_eq_true (by first | (with_reducible assumption) | assumption)
                      obtain ⟨ad665, e665, hx665_0, hx665_1, hx665_2⟩ := at_T53 HR0_1.out x20_2 p665 q665
                      cases e665
                      replace hx665_0 := (HB.out.cell (World.block_lt_of_cell? w _ hx665_0)).trans hx665_0
                      replace hx665_1 := (HB.out.cell (World.block_lt_of_cell? w _ hx665_1)).trans hx665_1
                      replace hx665_2 := (HB.out.cell (World.block_lt_of_cell? w _ hx665_2)).trans hx665_2
                      replace p665 := eq_true p665
                      replace q665 := eq_true q665
                      go_upto_region 20 with (first | ((with_reducible refine gate_callee (f := 43) rfl ?_); refine goesL_ (some 85) rfl rfl Tryd.func43 (by kernel_rfl) rfl #[.agg #[.int .i32 ((rd_T53 l0_1 x20_2).f0), .int .u32 ((rd_T53 l0_1 x20_2).f1), .int .u32 ((rd_T53 l0_1 x20_2).f2)], .int .u32 (Go.bits .or .u32 (Go.bits .andNot .u32 t655 a3) a2), .int .u32 (Go.bits .or .u32 (Go.bits .andNot .u32 t656 a2) a3)] rfl (by (try simp only [List.map_toArray, List.map_cons, List.map_nil]); first | done | rfl | (simp only [List.length_drop, List.length_take]; rfl)) ?_; (with_reducible refine (cognatelaw02_signs.calls k2 ((rd_T53 l0_1 x20_2).f0) ((rd_T53 l0_1 x20_2).f1) ((rd_T53 l0_1 x20_2).f2) (Go.bits .or .u32 (Go.bits .andNot .u32 t655 a3) a2) (Go.bits .or .u32 (Go.bits .andNot .u32 t656 a2) a3) t666 _ A38.out).mono ?_); rintro e w52 ⟨rfl, hb⟩; refine ⟨_, rfl, ?_⟩; have n0_ := Aside0.mk (blk_below (g := gb650) (o := .cells #[.slice A0_0 l0_0.length c0_0, .slice (some ad665) l0_1.length c0_1] 25 (0, 0)) (by (with_reducible repeat (first | refine blk_drewN ?_ _ | refine blk_drew ?_ | refine blk_alloc ?_ _)); exact BK650.out) hb); have n1_ := Aside0.mk (blk_below (g := gb658) (o := .cells #[.int .i32 t654, .int .u32 t655, .int .u32 t656] 53 (0, 0)) (by (with_reducible repeat (first | refine blk_drewN ?_ _ | refine blk_drew ?_ | refine blk_alloc ?_ _)); exact BK658.out) hb); have n2_ := Aside0.mk (blk_below (g := gb663) (o := .cells #[.int .i32 t659, .int .u32 t660, .int .u32 t661] 53 (0, 0)) (by (with_reducible repeat (first | refine blk_drewN ?_ _ | refine blk_drew ?_ | refine blk_alloc ?_ _)); exact BK663.out) hb); have n3_ := Aside0.mk (below_step (by repeat (first | (with_reducible first | exact HB.out | apply below_alloc | apply pw_below_drewN | apply below_drew1 | refine below_set ?_ GE650.out | refine below_set ?_ GE658.out | refine below_set ?_ GE663.out) | exact HB.out)) hb); clear BK650; clear BK658; clear BK663; clear HB; have BK650 := n0_; have BK658 := n1_; have BK663 := n2_; have HB := n3_; clear n0_ n1_ n2_ n3_; (try clear hb); (try clear hb2); (try clear hk); (try clear hi); have hcz53_0 : w52.cell? ⟨gb650, 0, none⟩ = some (.slice A0_0 l0_0.length c0_0) := (blk_cell BK650.out 0).trans rfl; have hcz53_1 : w52.cell? ⟨gb650, 1, none⟩ = some (.slice (some ad665) l0_1.length c0_1) := (blk_cell BK650.out 1).trans rfl; have hfz53_0 := blk_frozen BK650.out 0; have hfz53_1 := blk_frozen BK650.out 1; have p667 : 0 ≤ (x20_2 : Int) := of_decide_eq_true (by first | (with_reducible assumption) | assumption); have q667 : x20_2 < (l0_1.length : Int) := of_decide_eq_true (by first | (with_reducible assumption) | assumption); obtain ⟨ad667, e667, hx667_0, hx667_1, hx667_2⟩ := at_T53 HR0_1.out x20_2 p667 q667; obtain rfl : ad665 = ad667 := (by injection e667); replace hx667_0 := (HB.out.cell (World.block_lt_of_cell? w _ hx667_0)).trans hx667_0; replace hx667_1 := (HB.out.cell (World.block_lt_of_cell? w _ hx667_1)).trans hx667_1; replace hx667_2 := (HB.out.cell (World.block_lt_of_cell? w _ hx667_2)).trans hx667_2; replace p667 := eq_true p667; replace q667 := eq_true q667))
                      (try simp only [Act.put, List.setIfInBounds_toArray, List.set_cons_zero, List.set_cons_succ])
                      go_cut [108] (fun v108 wc => ∃ (kq : Nat) (x108_47 : Bool), v108 = .bool x108_47 ∧ Aside0 (cognatelaw02_FeatureNearest.j3 kq a2 a3 t652 (Go.bits .or .u32 (Go.bits .andNot .u32 t655 a3) a2) (Go.bits .or .u32 (Go.bits .andNot .u32 t656 a2) a3) t664 (((rd_T53 l0_1 x20_2).f0) == t652) x20_2 x108_47 l0_0 l0_1 t654 t655 t656 t659 t660 t661 = some r) ∧ Aside0 (kq ≤ k2) ∧ Aside0 (wc.heap[gb650]? = some (.cells #[(.slice A0_0 l0_0.length c0_0), (.slice (some ad665) l0_1.length c0_1)] 25 (0, 0))) ∧ Aside0 (wc.heap[gb658]? = some (.cells #[.int .i32 t654, .int .u32 t655, .int .u32 t656] 53 (0, 0))) ∧ Aside0 (wc.heap[gb663]? = some (.cells #[.int .i32 t659, .int .u32 t660, .int .u32 t661] 53 (0, 0))) ∧ Aside0 (Below w.heap.size w wc))
                      case first =>
                        have H := HC48.out
                        clear HC48
                        by_cases c54 : t666 < t664
                        · rw [if_pos c54] at H
                          have c54b0 : decide (t666 < t664) = true := decide_eq_true c54
                          clear c54
                          (first | rw [c54b0] | (simp only [i64_w, i32_w]; rw [c54b0]) | skip)
                          have H' := Aside0.mk H
                          clear H
                          go_wp2
                          go_meet
                          case rel => exact ⟨_, (true), (by first | rfl | (simp; done) | (simp [*]; done)), H', ⟨by have := HJ10.out; have := HK2.out; first | omega | exact Nat.le_refl _⟩, ⟨by (with_reducible repeat (first | refine blk_drewN ?_ _ | refine blk_drew ?_ | refine blk_alloc ?_ _)); exact BK650.out⟩, ⟨by (with_reducible repeat (first | refine blk_drewN ?_ _ | refine blk_drew ?_ | refine blk_alloc ?_ _)); exact BK658.out⟩, ⟨by (with_reducible repeat (first | refine blk_drewN ?_ _ | refine blk_drew ?_ | refine blk_alloc ?_ _)); exact BK663.out⟩, ⟨by repeat (first | (with_reducible first | exact HB.out | apply below_alloc | apply pw_below_drewN | apply below_drew1 | refine below_set ?_ GE650.out | refine below_set ?_ GE658.out | refine below_set ?_ GE663.out) | exact HB.out)⟩⟩
                        · rw [if_neg c54] at H
                          have c54b0 : decide (t666 < t664) = false := decide_eq_false c54
                          clear c54
                          (first | rw [c54b0] | (simp only [i64_w, i32_w]; rw [c54b0]) | skip)
                          by_cases c55 : t666 = t664
                          · rw [if_pos c55] at H
                            have c55b0 : (t666 == t664) = true := beq_iff_eq.mpr c55
                            have c55b1 : (t666 != t664) = false := bne_eq_false_iff_eq.mpr c55
                            clear c55
                            have H' := Aside0.mk H
                            clear H
                            go_wp2
                            go_meet
                            case rel => exact ⟨_, (!(((rd_T53 l0_1 x20_2).f0) == t652)), (by first | rfl | (simp; done) | (simp [*]; done)), H', ⟨by have := HJ10.out; have := HK2.out; first | omega | exact Nat.le_refl _⟩, ⟨by (with_reducible repeat (first | refine blk_drewN ?_ _ | refine blk_drew ?_ | refine blk_alloc ?_ _)); exact BK650.out⟩, ⟨by (with_reducible repeat (first | refine blk_drewN ?_ _ | refine blk_drew ?_ | refine blk_alloc ?_ _)); exact BK658.out⟩, ⟨by (with_reducible repeat (first | refine blk_drewN ?_ _ | refine blk_drew ?_ | refine blk_alloc ?_ _)); exact BK663.out⟩, ⟨by repeat (first | (with_reducible first | exact HB.out | apply below_alloc | apply pw_below_drewN | apply below_drew1 | refine below_set ?_ GE650.out | refine below_set ?_ GE658.out | refine below_set ?_ GE663.out) | exact HB.out)⟩⟩
                          · rw [if_neg c55] at H
                            have c55b0 : (t666 == t664) = false := beq_eq_false_iff_ne.mpr c55
                            have c55b1 : (t666 != t664) = true := bne_iff_ne.mpr c55
                            have H' := Aside0.mk H
                            clear H
                            go_wp2
                            go_meet
                            case rel => exact ⟨_, (false), (by first | rfl | (simp; done) | (simp [*]; done)), H', ⟨by have := HJ10.out; have := HK2.out; first | omega | exact Nat.le_refl _⟩, ⟨by (with_reducible repeat (first | refine blk_drewN ?_ _ | refine blk_drew ?_ | refine blk_alloc ?_ _)); exact BK650.out⟩, ⟨by (with_reducible repeat (first | refine blk_drewN ?_ _ | refine blk_drew ?_ | refine blk_alloc ?_ _)); exact BK658.out⟩, ⟨by (with_reducible repeat (first | refine blk_drewN ?_ _ | refine blk_drew ?_ | refine blk_alloc ?_ _)); exact BK663.out⟩, ⟨by repeat (first | (with_reducible first | exact HB.out | apply below_alloc | apply pw_below_drewN | apply below_drew1 | refine below_set ?_ GE650.out | refine below_set ?_ GE658.out | refine below_set ?_ GE663.out) | exact HB.out)⟩⟩
                      case rest =>
                        clear HC48
                        try clear c1
                        try clear c2
                        try clear p2
                        try clear c3
                        try clear c4
                        try clear c5
                        try clear c6
                        try clear p6
                        try clear q6
                        try clear hx6
                        try clear c8
                        try clear c9
                        try clear c9b0
                        try clear c9b1
                        try clear c19
                        try clear c24
                        try clear c25
                        try clear c27
                        try clear c27b0
                        try clear c27b1
                        try clear c28
                        try clear c30
                        try clear c31
                        try clear c33
                        try clear c34
                        try clear c36
                        try clear c36b0
                        try clear c37
                        try clear c37b0
                        try clear c39
                        try clear c41
                        try clear c42
                        try clear c43
                        try clear c45
                        try clear c45b0
                        try clear c46
                        try clear c46b0
                        try clear c46b1
                        try clear c47
                        try clear c49
                        try clear c50
                        try clear c54
                        try clear c54b0
                        try clear c55
                        try clear c55b0
                        try clear c55b1
                        try clear hcz14_0
                        try clear hcz14_1
                        try clear hcz16_0
                        try clear hcz16_1
                        try clear hcz20_0
                        try clear hcz20_1
                        try clear hcz20_2
                        try clear hcz21_0
                        try clear hcz21_1
                        try clear hcz26_0
                        try clear hcz26_1
                        try clear hcz26_2
                        try clear hcz32_0
                        try clear hcz32_1
                        try clear hcz32_2
                        try clear hcz34_0
                        try clear hcz34_1
                        try clear hcz34_2
                        try clear hcz43_0
                        try clear hcz43_1
                        try clear hcz51_0
                        try clear hcz51_1
                        try clear hcz53_0
                        try clear hcz53_1
                        try clear hfz14_0
                        try clear hfz14_1
                        try clear hfz16_0
                        try clear hfz16_1
                        try clear hfz20_0
                        try clear hfz20_1
                        try clear hfz20_2
                        try clear hfz21_0
                        try clear hfz21_1
                        try clear hfz26_0
                        try clear hfz26_1
                        try clear hfz26_2
                        try clear hfz32_0
                        try clear hfz32_1
                        try clear hfz32_2
                        try clear hfz34_0
                        try clear hfz34_1
                        try clear hfz34_2
                        try clear hfz43_0
                        try clear hfz43_1
                        try clear hfz51_0
                        try clear hfz51_1
                        try clear hfz53_0
                        try clear hfz53_1
                        try clear hx665_0
                        try clear hx665_1
                        try clear hx665_2
                        try clear hx667_0
                        try clear hx667_1
                        try clear hx667_2
                        try clear p2
                        try clear p6
                        try clear p665
                        try clear p667
                        try clear q6
                        try clear q665
                        try clear q667
                        obtain ⟨kq, x108_47, rfl, HA, HJ47, BK650, BK658, BK663, HB⟩ := hcut
                        cases kq with
                        | zero => exact absurd HA.out (by simp [cognatelaw02_FeatureNearest.j3])
                        | succ kj47 =>
                          have H := HA.out
                          clear HA
                          simp only [cognatelaw02_FeatureNearest.j3] at H
                          by_cases c56 : x108_47 = true
                          · subst c56
                            have H1 : (some false) = some r := by rw [if_pos rfl] at H; exact H
                            clear H
                            have H := H1
                            clear H1
                            obtain rfl := Option.some.inj H
                            go_wp2
                            go_ret
                            exact ⟨by first | rfl | (simp [errW_none, errW_some] <;> rfl) | (simp [*, errW_none, errW_some] <;> rfl), by repeat (first | (with_reducible first | exact HB.out | apply below_alloc | apply pw_below_drewN | apply below_drew1 | refine below_set ?_ GE650.out | refine below_set ?_ GE658.out | refine below_set ?_ GE663.out) | exact HB.out)⟩
                          · replace c56 := Bool.eq_false_iff.mpr c56
                            subst c56
                            have H1 : (cognatelaw02_FeatureNearest.l0 kj47 a2 a3 t652 (Go.bits .or .u32 (Go.bits .andNot .u32 t655 a3) a2) (Go.bits .or .u32 (Go.bits .andNot .u32 t656 a2) a3) t664 (((rd_T53 l0_1 x20_2).f0) == t652) (wrap64 (x20_2 + 1)) l0_0 l0_1 t654 t655 t656 t659 t660 t661) = some r := by rw [if_neg (show ¬ (false = true) by decide)] at H; exact H
                            clear H
                            have H := H1
                            clear H1
                            have H' := Aside0.mk H
                            clear H
                            go_wp2
                            go_roundg kj47
                            case measure => have := HJ10.out; have := HK2.out; have := HJ47.out; omega
                            case rel => exact ⟨((((rd_T53 l0_1 x20_2).f0) == t652)), (wrap64 (x20_2 + 1)), (by first | rfl | (simp; done) | (simp [*]; done)), (by first | rfl | (simp; done) | (simp [*]; done)), H', ⟨by have := HJ10.out; have := HK2.out; have := HJ47.out; omega⟩, ⟨by (with_reducible repeat (first | refine blk_drewN ?_ _ | refine blk_drew ?_ | refine blk_alloc ?_ _)); exact BK650.out⟩, ⟨by (with_reducible repeat (first | refine blk_drewN ?_ _ | refine blk_drew ?_ | refine blk_alloc ?_ _)); exact BK658.out⟩, ⟨by (with_reducible repeat (first | refine blk_drewN ?_ _ | refine blk_drew ?_ | refine blk_alloc ?_ _)); exact BK663.out⟩, ⟨by repeat (first | (with_reducible first | exact HB.out | apply below_alloc | apply pw_below_drewN | apply below_drew1 | refine below_set ?_ GE650.out | refine below_set ?_ GE658.out | refine below_set ?_ GE663.out) | exact HB.out)⟩⟩
                  · rw [if_neg c37] at H
                    exact absurd H (by simp)
                · rw [if_neg c36] at H
                  have c36b0 : decide (x20_2 < (l0_1.length : Int)) = false := decide_eq_false c36
                  clear c36
                  by_cases c57 : x19_2 = true
                  · subst c57
                    have H1 : (if (Go.bits .or .u32 a2 a3) = 0 then (if t660 = t655 then (some (t661 == t656)) else (some false)) else (some true)) = some r := by rw [if_pos rfl] at H; exact H
                    clear H
                    have H := H1
                    clear H1
                    by_cases c58 : (Go.bits .or .u32 a2 a3) = 0
                    · rw [if_pos c58] at H
                      have c58b0 : ((Go.bits .or .u32 a2 a3) == 0) = true := beq_iff_eq.mpr c58
                      have c58b1 : ((Go.bits .or .u32 a2 a3) != 0) = false := bne_eq_false_iff_eq.mpr c58
                      clear c58
                      by_cases c59 : t660 = t655
                      · rw [if_pos c59] at H
                        have c59b0 : (t660 == t655) = true := beq_iff_eq.mpr c59
                        have c59b1 : (t660 != t655) = false := bne_eq_false_iff_eq.mpr c59
                        clear c59
                        obtain rfl := Option.some.inj H
                        have hnb60 := NB650_658.out
                        have hnc60 := NB658_650.out
                        have hnb61 := NB650_663.out
                        have hnc61 := NB663_650.out
                        have hcz62_0 : wr.cell? ⟨gb650, 0, none⟩ = some (.slice A0_0 l0_0.length c0_0) := (blk_cell BK650.out 0).trans rfl
                        have hcz62_1 : wr.cell? ⟨gb650, 1, none⟩ = some (.slice A0_1 l0_1.length c0_1) := (blk_cell BK650.out 1).trans rfl
                        have hfz62_0 := blk_frozen BK650.out 0
                        have hfz62_1 := blk_frozen BK650.out 1
                        have hnb63 := NB663_658.out
                        have hnc63 := NB658_663.out
                        have hcz64_0 : wr.cell? ⟨gb663, 0, none⟩ = some (.int .i32 t659) := (blk_cell BK663.out 0).trans rfl
                        have hcz64_1 : wr.cell? ⟨gb663, 1, none⟩ = some (.int .u32 t660) := (blk_cell BK663.out 1).trans rfl
                        have hcz64_2 : wr.cell? ⟨gb663, 2, none⟩ = some (.int .u32 t661) := (blk_cell BK663.out 2).trans rfl
                        have hfz64_0 := blk_frozen BK663.out 0
                        have hfz64_1 := blk_frozen BK663.out 1
                        have hfz64_2 := blk_frozen BK663.out 2
                        have hcz65_0 : wr.cell? ⟨gb658, 0, none⟩ = some (.int .i32 t654) := (blk_cell BK658.out 0).trans rfl
                        have hcz65_1 : wr.cell? ⟨gb658, 1, none⟩ = some (.int .u32 t655) := (blk_cell BK658.out 1).trans rfl
                        have hcz65_2 : wr.cell? ⟨gb658, 2, none⟩ = some (.int .u32 t656) := (blk_cell BK658.out 2).trans rfl
                        have hfz65_0 := blk_frozen BK658.out 0
                        have hfz65_1 := blk_frozen BK658.out 1
                        have hfz65_2 := blk_frozen BK658.out 2
                        go_wp2
                        go_ret
                        exact ⟨by first | rfl | (simp [errW_none, errW_some] <;> rfl) | (simp [*, errW_none, errW_some] <;> rfl), by repeat (first | (with_reducible first | exact HB.out | apply below_alloc | apply pw_below_drewN | apply below_drew1 | refine below_set ?_ GE650.out | refine below_set ?_ GE658.out | refine below_set ?_ GE663.out) | exact HB.out)⟩
                      · rw [if_neg c59] at H
                        have c59b0 : (t660 == t655) = false := beq_eq_false_iff_ne.mpr c59
                        have c59b1 : (t660 != t655) = true := bne_iff_ne.mpr c59
                        obtain rfl := Option.some.inj H
                        have hnb66 := NB650_658.out
                        have hnc66 := NB658_650.out
                        have hnb67 := NB650_663.out
                        have hnc67 := NB663_650.out
                        have hcz68_0 : wr.cell? ⟨gb650, 0, none⟩ = some (.slice A0_0 l0_0.length c0_0) := (blk_cell BK650.out 0).trans rfl
                        have hcz68_1 : wr.cell? ⟨gb650, 1, none⟩ = some (.slice A0_1 l0_1.length c0_1) := (blk_cell BK650.out 1).trans rfl
                        have hfz68_0 := blk_frozen BK650.out 0
                        have hfz68_1 := blk_frozen BK650.out 1
                        have hnb69 := NB663_658.out
                        have hnc69 := NB658_663.out
                        have hcz70_0 : wr.cell? ⟨gb663, 0, none⟩ = some (.int .i32 t659) := (blk_cell BK663.out 0).trans rfl
                        have hcz70_1 : wr.cell? ⟨gb663, 1, none⟩ = some (.int .u32 t660) := (blk_cell BK663.out 1).trans rfl
                        have hcz70_2 : wr.cell? ⟨gb663, 2, none⟩ = some (.int .u32 t661) := (blk_cell BK663.out 2).trans rfl
                        have hfz70_0 := blk_frozen BK663.out 0
                        have hfz70_1 := blk_frozen BK663.out 1
                        have hfz70_2 := blk_frozen BK663.out 2
                        have hcz71_0 : wr.cell? ⟨gb658, 0, none⟩ = some (.int .i32 t654) := (blk_cell BK658.out 0).trans rfl
                        have hcz71_1 : wr.cell? ⟨gb658, 1, none⟩ = some (.int .u32 t655) := (blk_cell BK658.out 1).trans rfl
                        have hcz71_2 : wr.cell? ⟨gb658, 2, none⟩ = some (.int .u32 t656) := (blk_cell BK658.out 2).trans rfl
                        have hfz71_0 := blk_frozen BK658.out 0
                        have hfz71_1 := blk_frozen BK658.out 1
                        have hfz71_2 := blk_frozen BK658.out 2
                        go_wp2
                        go_ret
                        exact ⟨by first | rfl | (simp [errW_none, errW_some] <;> rfl) | (simp [*, errW_none, errW_some] <;> rfl), by repeat (first | (with_reducible first | exact HB.out | apply below_alloc | apply pw_below_drewN | apply below_drew1 | refine below_set ?_ GE650.out | refine below_set ?_ GE658.out | refine below_set ?_ GE663.out) | exact HB.out)⟩
                    · rw [if_neg c58] at H
                      have c58b0 : ((Go.bits .or .u32 a2 a3) == 0) = false := beq_eq_false_iff_ne.mpr c58
                      have c58b1 : ((Go.bits .or .u32 a2 a3) != 0) = true := bne_iff_ne.mpr c58
                      obtain rfl := Option.some.inj H
                      have hnb72 := NB650_658.out
                      have hnc72 := NB658_650.out
                      have hnb73 := NB650_663.out
                      have hnc73 := NB663_650.out
                      have hcz74_0 : wr.cell? ⟨gb650, 0, none⟩ = some (.slice A0_0 l0_0.length c0_0) := (blk_cell BK650.out 0).trans rfl
                      have hcz74_1 : wr.cell? ⟨gb650, 1, none⟩ = some (.slice A0_1 l0_1.length c0_1) := (blk_cell BK650.out 1).trans rfl
                      have hfz74_0 := blk_frozen BK650.out 0
                      have hfz74_1 := blk_frozen BK650.out 1
                      go_wp2
                      go_ret
                      exact ⟨by first | rfl | (simp [errW_none, errW_some] <;> rfl) | (simp [*, errW_none, errW_some] <;> rfl), by repeat (first | (with_reducible first | exact HB.out | apply below_alloc | apply pw_below_drewN | apply below_drew1 | refine below_set ?_ GE650.out | refine below_set ?_ GE658.out | refine below_set ?_ GE663.out) | exact HB.out)⟩
                  · replace c57 := Bool.eq_false_iff.mpr c57
                    subst c57
                    have H1 : (some false) = some r := by rw [if_neg (show ¬ (false = true) by decide)] at H; exact H
                    clear H
                    have H := H1
                    clear H1
                    obtain rfl := Option.some.inj H
                    have hnb75 := NB650_658.out
                    have hnc75 := NB658_650.out
                    have hnb76 := NB650_663.out
                    have hnc76 := NB663_650.out
                    have hcz77_0 : wr.cell? ⟨gb650, 0, none⟩ = some (.slice A0_0 l0_0.length c0_0) := (blk_cell BK650.out 0).trans rfl
                    have hcz77_1 : wr.cell? ⟨gb650, 1, none⟩ = some (.slice A0_1 l0_1.length c0_1) := (blk_cell BK650.out 1).trans rfl
                    have hfz77_0 := blk_frozen BK650.out 0
                    have hfz77_1 := blk_frozen BK650.out 1
                    go_wp2
                    go_ret
                    exact ⟨by first | rfl | (simp [errW_none, errW_some] <;> rfl) | (simp [*, errW_none, errW_some] <;> rfl), by repeat (first | (with_reducible first | exact HB.out | apply below_alloc | apply pw_below_drewN | apply below_drew1 | refine below_set ?_ GE650.out | refine below_set ?_ GE658.out | refine below_set ?_ GE663.out) | exact HB.out)⟩
    · rw [if_neg c9] at H
      have c9b0 : (t653 == 0) = false := beq_eq_false_iff_ne.mpr c9
      have c9b1 : (t653 != 0) = true := bne_iff_ne.mpr c9
      obtain rfl := Option.some.inj H
      go_enter Tryd.func8, Tryd.ntmps8
      go_wp2_with (first | ((with_reducible refine gate_dst (N := 4) rfl ?_); refine box_event ?hg (N := 4) ?hd (cs := #[.slice A0_0 l0_0.length c0_0, .slice A0_1 l0_1.length c0_1]) (t := 25) ?hr ?_; (case hd => rfl); (case hg => rfl); (case hr => first | (go_simp; done) | (go_simp; rfl)); intro gb650 hg w78 hbox hb; have n0_ := Aside0.mk (below_step (by repeat (first | (with_reducible first | exact HB.out | apply below_alloc | apply pw_below_drewN | apply below_drew1) | exact HB.out)) hb); have n1_ := Aside0.mk (hbox); have n2_ := Aside0.mk ((by rw [hg]; exact (below_size (by repeat (first | (with_reducible first | exact HB.out | apply below_alloc | apply pw_below_drewN | apply below_drew1) | exact HB.out))) : w.heap.size ≤ gb650)); have n3_ := Aside0.mk ((by rw [hg]; exact (below_size (by repeat (first | (with_reducible first | exact HB.out | apply below_alloc | apply pw_below_drewN | apply below_drew1) | exact HB.out))) : w.heap.size ≤ gb650)); clear HB; have HB := n0_; have BK650 := n1_; have GW650 := n2_; have GE650 := n3_; clear n0_ n1_ n2_ n3_; clear hb hbox hg) | ((with_reducible refine gate_callee (f := 25) rfl ?_); refine goesL_ (some 22) rfl rfl Tryd.func25 (by kernel_rfl) rfl #[] rfl (by (try simp only [List.map_toArray, List.map_cons, List.map_nil]); first | done | rfl | (simp only [List.length_drop, List.length_take]; rfl)) ?_; (with_reducible refine (cognatelaw02_alive.calls k  true _ A5.out).mono ?_); rintro e w79 ⟨rfl, hb⟩; refine ⟨_, rfl, ?_⟩; have n0_ := Aside0.mk (blk_below (g := gb650) (o := .cells #[.slice A0_0 l0_0.length c0_0, .slice A0_1 l0_1.length c0_1] 25 (0, 0)) (by (with_reducible repeat (first | refine blk_drewN ?_ _ | refine blk_drew ?_ | refine blk_alloc ?_ _)); exact BK650.out) hb); have n1_ := Aside0.mk (below_step (by repeat (first | (with_reducible first | exact HB.out | apply below_alloc | apply pw_below_drewN | apply below_drew1 | refine below_set ?_ GE650.out) | exact HB.out)) hb); clear BK650; clear HB; have BK650 := n0_; have HB := n1_; clear n0_ n1_; (try clear hb); (try clear hb2); (try clear hk); (try clear hi); have hcz80_0 : w79.cell? ⟨gb650, 0, none⟩ = some (.slice A0_0 l0_0.length c0_0) := (blk_cell BK650.out 0).trans rfl; have hcz80_1 : w79.cell? ⟨gb650, 1, none⟩ = some (.slice A0_1 l0_1.length c0_1) := (blk_cell BK650.out 1).trans rfl; have hfz80_0 := blk_frozen BK650.out 0; have hfz80_1 := blk_frozen BK650.out 1) | ((with_reducible refine gate_callee (f := 34) rfl ?_); refine goesL_ (some 30) rfl rfl Tryd.func34 (by kernel_rfl) rfl #[.agg #[.slice A0_0 l0_0.length c0_0, .slice A0_1 l0_1.length c0_1], .int .i32 a1, .int .u32 a2, .int .u32 a3] rfl (by (try simp only [List.map_toArray, List.map_cons, List.map_nil]); first | done | rfl | (simp only [List.length_drop, List.length_take]; rfl)) ?_; (with_reducible refine (feature_Near.calls _ _ l0_0 _ _ l0_1 a1 a2 a3 t652 t653 _ ?side1 ?side2 ?side3 ?side4 A7.out).mono ?_); (case side1 => repeat (first | exact (Kd.C_below HR0_0.out HB.out) | (with_reducible refine Kd.C_alloc ?_ _) | (with_reducible refine Kd.C_drewN ?_ _) | (with_reducible refine Kd.C_drew ?_))); (case side2 => exact HC0_0.out); (case side3 => repeat (first | exact (Kd.C_below HR0_1.out HB.out) | (with_reducible refine Kd.C_alloc ?_ _) | (with_reducible refine Kd.C_drewN ?_ _) | (with_reducible refine Kd.C_drew ?_))); (case side4 => exact HC0_1.out); rintro e w81 ⟨rfl, hb⟩; refine ⟨_, rfl, ?_⟩; have n0_ := Aside0.mk (blk_below (g := gb650) (o := .cells #[.slice A0_0 l0_0.length c0_0, .slice A0_1 l0_1.length c0_1] 25 (0, 0)) (by (with_reducible repeat (first | refine blk_drewN ?_ _ | refine blk_drew ?_ | refine blk_alloc ?_ _)); exact BK650.out) hb); have n1_ := Aside0.mk (below_step (by repeat (first | (with_reducible first | exact HB.out | apply below_alloc | apply pw_below_drewN | apply below_drew1 | refine below_set ?_ GE650.out) | exact HB.out)) hb); clear BK650; clear HB; have BK650 := n0_; have HB := n1_; clear n0_ n1_; (try clear hb); (try clear hb2); (try clear hk); (try clear hi); have hcz82_0 : w81.cell? ⟨gb650, 0, none⟩ = some (.slice A0_0 l0_0.length c0_0) := (blk_cell BK650.out 0).trans rfl; have hcz82_1 : w81.cell? ⟨gb650, 1, none⟩ = some (.slice A0_1 l0_1.length c0_1) := (blk_cell BK650.out 1).trans rfl; have hfz82_0 := blk_frozen BK650.out 0; have hfz82_1 := blk_frozen BK650.out 1) | ((with_reducible refine gate_callee (f := 30) rfl ?_); refine goesL_ (some 36) rfl rfl Tryd.func30 (by kernel_rfl) rfl #[.agg #[.slice A0_0 l0_0.length c0_0, .slice A0_1 l0_1.length c0_1], .int .i32 a1] rfl (by (try simp only [List.map_toArray, List.map_cons, List.map_nil]); first | done | rfl | (simp only [List.length_drop, List.length_take]; rfl)) ?_; (with_reducible refine (feature_Of.calls _ _ l0_0 _ _ l0_1 a1 t654 t655 t656 t657 _ ?side1 ?side2 ?side3 ?side4 A8.out).mono ?_); (case side1 => repeat (first | exact (Kd.C_below HR0_0.out HB.out) | (with_reducible refine Kd.C_alloc ?_ _) | (with_reducible refine Kd.C_drewN ?_ _) | (with_reducible refine Kd.C_drew ?_))); (case side2 => exact HC0_0.out); (case side3 => repeat (first | exact (Kd.C_below HR0_1.out HB.out) | (with_reducible refine Kd.C_alloc ?_ _) | (with_reducible refine Kd.C_drewN ?_ _) | (with_reducible refine Kd.C_drew ?_))); (case side4 => exact HC0_1.out); rintro e w83 ⟨rfl, hb⟩; refine ⟨_, rfl, ?_⟩; have n0_ := Aside0.mk (blk_below (g := gb650) (o := .cells #[.slice A0_0 l0_0.length c0_0, .slice A0_1 l0_1.length c0_1] 25 (0, 0)) (by (with_reducible repeat (first | refine blk_drewN ?_ _ | refine blk_drew ?_ | refine blk_alloc ?_ _)); exact BK650.out) hb); have n1_ := Aside0.mk (below_step (by repeat (first | (with_reducible first | exact HB.out | apply below_alloc | apply pw_below_drewN | apply below_drew1 | refine below_set ?_ GE650.out) | exact HB.out)) hb); clear BK650; clear HB; have BK650 := n0_; have HB := n1_; clear n0_ n1_; (try clear hb); (try clear hb2); (try clear hk); (try clear hi)) | ((with_reducible refine gate_dst (N := 12) rfl ?_); refine box_event ?hg (N := 12) ?hd (cs := #[.int .i32 0, .int .u32 0, .int .u32 0]) (t := 53) ?hr ?_; (case hd => rfl); (case hg => rfl); (case hr => first | (go_simp; done) | (go_simp; rfl)); intro gb658 hg w84 hbox hb; have n0_ := Aside0.mk (blk_below (g := gb650) (o := .cells #[.slice A0_0 l0_0.length c0_0, .slice A0_1 l0_1.length c0_1] 25 (0, 0)) (by (with_reducible repeat (first | refine blk_drewN ?_ _ | refine blk_drew ?_ | refine blk_alloc ?_ _)); exact BK650.out) hb); have n1_ := Aside0.mk (below_step (by repeat (first | (with_reducible first | exact HB.out | apply below_alloc | apply pw_below_drewN | apply below_drew1 | refine below_set ?_ GE650.out) | exact HB.out)) hb); have n2_ := Aside0.mk (hbox); have n3_ := Aside0.mk ((by rw [hg]; exact (below_size (by repeat (first | (with_reducible first | exact HB.out | apply below_alloc | apply pw_below_drewN | apply below_drew1 | refine below_set ?_ GE650.out) | exact HB.out))) : w.heap.size ≤ gb658)); have n4_ := Aside0.mk ((by rw [hg]; exact (below_size (by repeat (first | (with_reducible first | exact HB.out | apply below_alloc | apply pw_below_drewN | apply below_drew1 | refine below_set ?_ GE650.out) | exact HB.out))) : w.heap.size ≤ gb658)); have n5_ := Aside0.mk ((by rw [hg]; exact Nat.ne_of_lt (blk_lt (g := gb650) (o := .cells #[.slice A0_0 l0_0.length c0_0, .slice A0_1 l0_1.length c0_1] 25 (0, 0)) (by (with_reducible repeat (first | refine blk_drewN ?_ _ | refine blk_drew ?_ | refine blk_alloc ?_ _)); exact BK650.out)) : gb650 ≠ gb658)); have n6_ := Aside0.mk ((by rw [hg]; exact Nat.ne_of_gt (blk_lt (g := gb650) (o := .cells #[.slice A0_0 l0_0.length c0_0, .slice A0_1 l0_1.length c0_1] 25 (0, 0)) (by (with_reducible repeat (first | refine blk_drewN ?_ _ | refine blk_drew ?_ | refine blk_alloc ?_ _)); exact BK650.out)) : gb658 ≠ gb650)); clear BK650; clear HB; have BK650 := n0_; have HB := n1_; have BK658 := n2_; have GW658 := n3_; have GE658 := n4_; have NB650_658 := n5_; have NB658_650 := n6_; clear n0_ n1_ n2_ n3_ n4_ n5_ n6_; clear hb hbox hg; have hnb85 := NB658_650.out; have hnc85 := NB650_658.out; have hcz86_0 : w84.cell? ⟨gb658, 0, none⟩ = some (.int .i32 0) := (blk_cell BK658.out 0).trans rfl; have hcz86_1 : w84.cell? ⟨gb658, 1, none⟩ = some (.int .u32 0) := (blk_cell BK658.out 1).trans rfl; have hcz86_2 : w84.cell? ⟨gb658, 2, none⟩ = some (.int .u32 0) := (blk_cell BK658.out 2).trans rfl; have hfz86_0 := blk_frozen BK658.out 0; have hfz86_1 := blk_frozen BK658.out 1; have hfz86_2 := blk_frozen BK658.out 2))
      go_ret
      exact ⟨by first | rfl | (simp [errW_none, errW_some] <;> rfl) | (simp [*, errW_none, errW_some] <;> rfl), by repeat (first | (with_reducible first | exact HB.out | apply below_alloc | apply pw_below_drewN | apply below_drew1 | refine below_set ?_ GE650.out | refine below_set ?_ GE658.out) | exact HB.out)⟩
  · replace c6 := Bool.eq_false_iff.mpr c6
    subst c6
    have H1 : (some false) = some r := by rw [if_neg (show ¬ (false = true) by decide)] at H; exact H
    clear H
    have H := H1
    clear H1
    obtain rfl := Option.some.inj H
    go_enter Tryd.func8, Tryd.ntmps8
    go_wp2_with (first | ((with_reducible refine gate_dst (N := 4) rfl ?_); refine box_event ?hg (N := 4) ?hd (cs := #[.slice A0_0 l0_0.length c0_0, .slice A0_1 l0_1.length c0_1]) (t := 25) ?hr ?_; (case hd => rfl); (case hg => rfl); (case hr => first | (go_simp; done) | (go_simp; rfl)); intro gb650 hg w87 hbox hb; have n0_ := Aside0.mk (below_step (by repeat (first | (with_reducible first | exact HB.out | apply below_alloc | apply pw_below_drewN | apply below_drew1) | exact HB.out)) hb); have n1_ := Aside0.mk (hbox); have n2_ := Aside0.mk ((by rw [hg]; exact (below_size (by repeat (first | (with_reducible first | exact HB.out | apply below_alloc | apply pw_below_drewN | apply below_drew1) | exact HB.out))) : w.heap.size ≤ gb650)); have n3_ := Aside0.mk ((by rw [hg]; exact (below_size (by repeat (first | (with_reducible first | exact HB.out | apply below_alloc | apply pw_below_drewN | apply below_drew1) | exact HB.out))) : w.heap.size ≤ gb650)); clear HB; have HB := n0_; have BK650 := n1_; have GW650 := n2_; have GE650 := n3_; clear n0_ n1_ n2_ n3_; clear hb hbox hg) | ((with_reducible refine gate_callee (f := 25) rfl ?_); refine goesL_ (some 22) rfl rfl Tryd.func25 (by kernel_rfl) rfl #[] rfl (by (try simp only [List.map_toArray, List.map_cons, List.map_nil]); first | done | rfl | (simp only [List.length_drop, List.length_take]; rfl)) ?_; (with_reducible refine (cognatelaw02_alive.calls k  false _ A5.out).mono ?_); rintro e w88 ⟨rfl, hb⟩; refine ⟨_, rfl, ?_⟩; have n0_ := Aside0.mk (blk_below (g := gb650) (o := .cells #[.slice A0_0 l0_0.length c0_0, .slice A0_1 l0_1.length c0_1] 25 (0, 0)) (by (with_reducible repeat (first | refine blk_drewN ?_ _ | refine blk_drew ?_ | refine blk_alloc ?_ _)); exact BK650.out) hb); have n1_ := Aside0.mk (below_step (by repeat (first | (with_reducible first | exact HB.out | apply below_alloc | apply pw_below_drewN | apply below_drew1 | refine below_set ?_ GE650.out) | exact HB.out)) hb); clear BK650; clear HB; have BK650 := n0_; have HB := n1_; clear n0_ n1_; (try clear hb); (try clear hb2); (try clear hk); (try clear hi)))
    go_ret
    exact ⟨by first | rfl | (simp [errW_none, errW_some] <;> rfl) | (simp [*, errW_none, errW_some] <;> rfl), by repeat (first | (with_reducible first | exact HB.out | apply below_alloc | apply pw_below_drewN | apply below_drew1 | refine below_set ?_ GE650.out) | exact HB.out)⟩

end Go.Proofs.YtjnikjnkmcbjfaaDoor.X
