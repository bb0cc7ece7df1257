-- Written by this session's own program wip/gen/xprint.py (out of the translation, by the kit's printer taught a few things more).
import Derived.Test.YtjnikjnkmcbjfaaDoorX0
import Derived.Test.YtjnikjnkmcbjfaaDoorX7
import Derived.Test.YtjnikjnkmcbjfaaDoorX26
import Derived.Test.YtjnikjnkmcbjfaaDoorX28
import Derived.Test.YtjnikjnkmcbjfaaDoorGCheck
import Derived.Test.YtjnikjnkmcbjfaaDoorGNear
import Derived.Test.YtjnikjnkmcbjfaaDoorGParse
import Derived.Test.YtjnikjnkmcbjfaaDoorGText
namespace Go.Proofs.YtjnikjnkmcbjfaaDoor.X
open Go.RowKit Go.Proofs.YtjnikjnkmcbjfaaDoorW.PrintWords Go.Proofs.YtjnikjnkmcbjfaaDoorW.PrintLast Go.Proofs.YtjnikjnkmcbjfaaDoorW.PrintMore
attribute [local go_sem] max2_int min2_int max_two min_two max_three min_three max_four min_four   -- for this text's walks alone
set_option linter.unusedVariables false
set_option linter.unusedSimpArgs false

/-! ### cognatelaw02_alive: function 25 -/
def cognatelaw02_alive.j0 : Nat → List Int → Int → Int → Int → Int → ByteArray → Int → Int → Int → Int → Bool → Bool → List ByteArray → List (S53) → Option (Bool)
  | 0, _, _, _, _, _, _, _, _, _, _, _, _, _, _ => none
  | k + 1, x2, x4, x6, x8, x9, x11, x13, x14, x15, x19, x21, x104, x371000, x371001 => if x104 = true then (some false) else (if 0 < (x2.length : Int) then (if (rd x2 0) = 98 then (if 1 < (x2.length : Int) then (if (rd x2 1) = 109 then (if x4 = 112 then (if x6 = 3 then (if x8 = 1 then (if x9 = 4 then (if x11.toList = ([43, 118, 111, 105, 99, 101, 100, 45, 110, 97, 115, 97, 108, 45, 118, 111, 119, 101, 108] : List UInt8) then (if x13 = 1 then (if x14 = 4 then (if x15 = 0 then (if x19 = 7 then (if x21 = true then ((feature_Check.f x371000 x371001).bind fun t399 => (if t399 = 0 then ((feature_Check.f ([] : List ByteArray) ([] : List (S53))).bind fun t400 => (some (t400 == 7))) else (some false))) else (some false)) else (some false)) else (some false)) else (some false)) else (some false)) else (some false)) else (some false)) else (some false)) else (some false)) else (some false)) else (some false)) else (none)) else (some false)) else (none))
def cognatelaw02_alive.f (k : Nat)  : Option (Bool) := (cognatelaw02_sample.f).bind fun bt364 => ((feature_Class.f k bt364.1 bt364.2 1 4).bind fun bt371 => ((feature_Near.f bt364.1 bt364.2 98 2 1).bind fun bt375 => ((feature_Far.f bt364.1 bt364.2 112 104).bind fun bt377 => ((feature_Least.f k bt364.1 bt364.2 (([98, 109] : List Int))).bind fun bt382 => ((feature_Text.f bt364.1 bt364.2 1 6).bind fun bt385 => ((feature_Parse.f bt364.1 bt364.2 (⟨#[45, 118, 111, 119, 101, 108, 43, 118, 111, 105, 99, 101, 100]⟩ : ByteArray)).bind fun bt387 => ((feature_Parse.f bt364.1 bt364.2 (⟨#[43, 118, 111, 105, 99, 101, 100, 45, 118, 111, 105, 99, 101, 100]⟩ : ByteArray)).bind fun bt391 => ((feature_Has.f bt364.1 bt364.2 98 1 2).bind fun bt395 => (if bt371.2 = 0 then (if bt375.2 = 0 then (if bt377.2 = 0 then (if bt382.2.2 = 0 then (if bt385.2 = 0 then (if bt387.2.2.2 = 0 then (if bt391.2.2.2 = 20 then (if bt395.2 = 0 then (cognatelaw02_alive.j0 k bt371.1 bt375.1 bt377.1 bt382.1 bt382.2.1 bt385.1 bt387.1 bt387.2.1 bt387.2.2.1 bt391.2.2.1 bt395.1 ((bt371.1.length : Int) != 2) bt364.1 bt364.2) else (cognatelaw02_alive.j0 k bt371.1 bt375.1 bt377.1 bt382.1 bt382.2.1 bt385.1 bt387.1 bt387.2.1 bt387.2.2.1 bt391.2.2.1 bt395.1 true bt364.1 bt364.2)) else (cognatelaw02_alive.j0 k bt371.1 bt375.1 bt377.1 bt382.1 bt382.2.1 bt385.1 bt387.1 bt387.2.1 bt387.2.2.1 bt391.2.2.1 bt395.1 true bt364.1 bt364.2)) else (cognatelaw02_alive.j0 k bt371.1 bt375.1 bt377.1 bt382.1 bt382.2.1 bt385.1 bt387.1 bt387.2.1 bt387.2.2.1 bt391.2.2.1 bt395.1 true bt364.1 bt364.2)) else (cognatelaw02_alive.j0 k bt371.1 bt375.1 bt377.1 bt382.1 bt382.2.1 bt385.1 bt387.1 bt387.2.1 bt387.2.2.1 bt391.2.2.1 bt395.1 true bt364.1 bt364.2)) else (cognatelaw02_alive.j0 k bt371.1 bt375.1 bt377.1 bt382.1 bt382.2.1 bt385.1 bt387.1 bt387.2.1 bt387.2.2.1 bt391.2.2.1 bt395.1 true bt364.1 bt364.2)) else (cognatelaw02_alive.j0 k bt371.1 bt375.1 bt377.1 bt382.1 bt382.2.1 bt385.1 bt387.1 bt387.2.1 bt387.2.2.1 bt391.2.2.1 bt395.1 true bt364.1 bt364.2)) else (cognatelaw02_alive.j0 k bt371.1 bt375.1 bt377.1 bt382.1 bt382.2.1 bt385.1 bt387.1 bt387.2.1 bt387.2.2.1 bt391.2.2.1 bt395.1 true bt364.1 bt364.2)) else (cognatelaw02_alive.j0 k bt371.1 bt375.1 bt377.1 bt382.1 bt382.2.1 bt385.1 bt387.1 bt387.2.1 bt387.2.2.1 bt391.2.2.1 bt395.1 true bt364.1 bt364.2))))))))))
theorem cognatelaw02_alive.mono_l : ∀ k, (∀ y0 y1 y2 y3 y4 y5 y6 y7 y8 y9 y10 y11 y12 y13, LeO (cognatelaw02_alive.j0 k y0 y1 y2 y3 y4 y5 y6 y7 y8 y9 y10 y11 y12 y13) (cognatelaw02_alive.j0 (k + 1) y0 y1 y2 y3 y4 y5 y6 y7 y8 y9 y10 y11 y12 y13))
  | 0 => fun _ _ _ _ _ _ _ _ _ _ _ _ _ _ r h => by simp [cognatelaw02_alive.j0] at h
  | k + 1 => by
    have ih0 := cognatelaw02_alive.mono_l k
    · intro y0 y1 y2 y3 y4 y5 y6 y7 y8 y9 y10 y11 y12 y13
      unfold cognatelaw02_alive.j0
      repeat' first
      | (with_reducible exact ih0 _ _ _ _ _ _ _ _ _ _ _ _ _ _)
      | (with_reducible exact feature_Class.mono _ _ _ _ _)
      | (with_reducible exact feature_Least.mono _ _ _ _)
      | (with_reducible exact LeO.refl _)
      | (with_reducible exact LeO.none _)
      | (with_reducible refine LeO.ite ?_ ?_)
      | (with_reducible refine LeO.bind ?_ (fun _ => ?_))
      | exact ih0 _ _ _ _ _ _ _ _ _ _ _ _ _ _
      | exact feature_Class.mono _ _ _ _ _
      | exact feature_Least.mono _ _ _ _
      | exact LeO.none _
      | refine LeO.ite ?_ ?_
      | refine LeO.bind ?_ (fun _ => ?_)
theorem cognatelaw02_alive.mono : ∀ k, LeO (cognatelaw02_alive.f k ) (cognatelaw02_alive.f (k + 1) ) := by
  intro  k
  have ih0 := cognatelaw02_alive.mono_l k
  unfold cognatelaw02_alive.f
  repeat' first
      | (with_reducible exact ih0 _ _ _ _ _ _ _ _ _ _ _ _ _ _)
      | (with_reducible exact feature_Class.mono _ _ _ _ _)
      | (with_reducible exact feature_Least.mono _ _ _ _)
      | (with_reducible exact LeO.refl _)
      | (with_reducible exact LeO.none _)
      | (with_reducible refine LeO.ite ?_ ?_)
      | (with_reducible refine LeO.bind ?_ (fun _ => ?_))
      | exact ih0 _ _ _ _ _ _ _ _ _ _ _ _ _ _
      | exact feature_Class.mono _ _ _ _ _
      | exact feature_Least.mono _ _ _ _
      | exact LeO.none _
      | refine LeO.ite ?_ ?_
      | refine LeO.bind ?_ (fun _ => ?_)
set_option maxHeartbeats 8000000 in
set_option maxRecDepth 100000 in
theorem cognatelaw02_alive.calls (k : Nat)  (r : Bool) (w : World) (h : cognatelaw02_alive.f k  = some r) :
    Calls Tryd.prog 25 #[] w fun e w' => e = .returned (.bool r) ∧ Below w.heap.size w w' := by
  have hu25 := Tryd.underlying25
  have HB := Aside0.mk (Below.refl w.heap.size w)
  have H : ((cognatelaw02_sample.f).bind fun bt364 => ((feature_Class.f k bt364.1 bt364.2 1 4).bind fun bt371 => ((feature_Near.f bt364.1 bt364.2 98 2 1).bind fun bt375 => ((feature_Far.f bt364.1 bt364.2 112 104).bind fun bt377 => ((feature_Least.f k bt364.1 bt364.2 (([98, 109] : List Int))).bind fun bt382 => ((feature_Text.f bt364.1 bt364.2 1 6).bind fun bt385 => ((feature_Parse.f bt364.1 bt364.2 (⟨#[45, 118, 111, 119, 101, 108, 43, 118, 111, 105, 99, 101, 100]⟩ : ByteArray)).bind fun bt387 => ((feature_Parse.f bt364.1 bt364.2 (⟨#[43, 118, 111, 105, 99, 101, 100, 45, 118, 111, 105, 99, 101, 100]⟩ : ByteArray)).bind fun bt391 => ((feature_Has.f bt364.1 bt364.2 98 1 2).bind fun bt395 => (if bt371.2 = 0 then (if bt375.2 = 0 then (if bt377.2 = 0 then (if bt382.2.2 = 0 then (if bt385.2 = 0 then (if bt387.2.2.2 = 0 then (if bt391.2.2.2 = 20 then (if bt395.2 = 0 then (cognatelaw02_alive.j0 k bt371.1 bt375.1 bt377.1 bt382.1 bt382.2.1 bt385.1 bt387.1 bt387.2.1 bt387.2.2.1 bt391.2.2.1 bt395.1 ((bt371.1.length : Int) != 2) bt364.1 bt364.2) else (cognatelaw02_alive.j0 k bt371.1 bt375.1 bt377.1 bt382.1 bt382.2.1 bt385.1 bt387.1 bt387.2.1 bt387.2.2.1 bt391.2.2.1 bt395.1 true bt364.1 bt364.2)) else (cognatelaw02_alive.j0 k bt371.1 bt375.1 bt377.1 bt382.1 bt382.2.1 bt385.1 bt387.1 bt387.2.1 bt387.2.2.1 bt391.2.2.1 bt395.1 true bt364.1 bt364.2)) else (cognatelaw02_alive.j0 k bt371.1 bt375.1 bt377.1 bt382.1 bt382.2.1 bt385.1 bt387.1 bt387.2.1 bt387.2.2.1 bt391.2.2.1 bt395.1 true bt364.1 bt364.2)) else (cognatelaw02_alive.j0 k bt371.1 bt375.1 bt377.1 bt382.1 bt382.2.1 bt385.1 bt387.1 bt387.2.1 bt387.2.2.1 bt391.2.2.1 bt395.1 true bt364.1 bt364.2)) else (cognatelaw02_alive.j0 k bt371.1 bt375.1 bt377.1 bt382.1 bt382.2.1 bt385.1 bt387.1 bt387.2.1 bt387.2.2.1 bt391.2.2.1 bt395.1 true bt364.1 bt364.2)) else (cognatelaw02_alive.j0 k bt371.1 bt375.1 bt377.1 bt382.1 bt382.2.1 bt385.1 bt387.1 bt387.2.1 bt387.2.2.1 bt391.2.2.1 bt395.1 true bt364.1 bt364.2)) else (cognatelaw02_alive.j0 k bt371.1 bt375.1 bt377.1 bt382.1 bt382.2.1 bt385.1 bt387.1 bt387.2.1 bt387.2.2.1 bt391.2.2.1 bt395.1 true bt364.1 bt364.2)) else (cognatelaw02_alive.j0 k bt371.1 bt375.1 bt377.1 bt382.1 bt382.2.1 bt385.1 bt387.1 bt387.2.1 bt387.2.2.1 bt391.2.2.1 bt395.1 true bt364.1 bt364.2))))))))))) = some r := h
  clear h
  replace H := Option.bind_eq_some_iff.mp H
  obtain ⟨⟨t364, t367⟩, A10, H⟩ := H
  replace H : ((feature_Class.f k t364 t367 1 4).bind fun bt371 => ((feature_Near.f t364 t367 98 2 1).bind fun bt375 => ((feature_Far.f t364 t367 112 104).bind fun bt377 => ((feature_Least.f k t364 t367 (([98, 109] : List Int))).bind fun bt382 => ((feature_Text.f t364 t367 1 6).bind fun bt385 => ((feature_Parse.f t364 t367 (⟨#[45, 118, 111, 119, 101, 108, 43, 118, 111, 105, 99, 101, 100]⟩ : ByteArray)).bind fun bt387 => ((feature_Parse.f t364 t367 (⟨#[43, 118, 111, 105, 99, 101, 100, 45, 118, 111, 105, 99, 101, 100]⟩ : ByteArray)).bind fun bt391 => ((feature_Has.f t364 t367 98 1 2).bind fun bt395 => (if bt371.2 = 0 then (if bt375.2 = 0 then (if bt377.2 = 0 then (if bt382.2.2 = 0 then (if bt385.2 = 0 then (if bt387.2.2.2 = 0 then (if bt391.2.2.2 = 20 then (if bt395.2 = 0 then (cognatelaw02_alive.j0 k bt371.1 bt375.1 bt377.1 bt382.1 bt382.2.1 bt385.1 bt387.1 bt387.2.1 bt387.2.2.1 bt391.2.2.1 bt395.1 ((bt371.1.length : Int) != 2) t364 t367) else (cognatelaw02_alive.j0 k bt371.1 bt375.1 bt377.1 bt382.1 bt382.2.1 bt385.1 bt387.1 bt387.2.1 bt387.2.2.1 bt391.2.2.1 bt395.1 true t364 t367)) else (cognatelaw02_alive.j0 k bt371.1 bt375.1 bt377.1 bt382.1 bt382.2.1 bt385.1 bt387.1 bt387.2.1 bt387.2.2.1 bt391.2.2.1 bt395.1 true t364 t367)) else (cognatelaw02_alive.j0 k bt371.1 bt375.1 bt377.1 bt382.1 bt382.2.1 bt385.1 bt387.1 bt387.2.1 bt387.2.2.1 bt391.2.2.1 bt395.1 true t364 t367)) else (cognatelaw02_alive.j0 k bt371.1 bt375.1 bt377.1 bt382.1 bt382.2.1 bt385.1 bt387.1 bt387.2.1 bt387.2.2.1 bt391.2.2.1 bt395.1 true t364 t367)) else (cognatelaw02_alive.j0 k bt371.1 bt375.1 bt377.1 bt382.1 bt382.2.1 bt385.1 bt387.1 bt387.2.1 bt387.2.2.1 bt391.2.2.1 bt395.1 true t364 t367)) else (cognatelaw02_alive.j0 k bt371.1 bt375.1 bt377.1 bt382.1 bt382.2.1 bt385.1 bt387.1 bt387.2.1 bt387.2.2.1 bt391.2.2.1 bt395.1 true t364 t367)) else (cognatelaw02_alive.j0 k bt371.1 bt375.1 bt377.1 bt382.1 bt382.2.1 bt385.1 bt387.1 bt387.2.1 bt387.2.2.1 bt391.2.2.1 bt395.1 true t364 t367)) else (cognatelaw02_alive.j0 k bt371.1 bt375.1 bt377.1 bt382.1 bt382.2.1 bt385.1 bt387.1 bt387.2.1 bt387.2.2.1 bt391.2.2.1 bt395.1 true t364 t367)))))))))) = some r := H
  have A1 := Aside0.mk A10
  clear A10
  replace H := Option.bind_eq_some_iff.mp H
  obtain ⟨⟨t371, t374⟩, A20, H⟩ := H
  replace H : ((feature_Near.f t364 t367 98 2 1).bind fun bt375 => ((feature_Far.f t364 t367 112 104).bind fun bt377 => ((feature_Least.f k t364 t367 (([98, 109] : List Int))).bind fun bt382 => ((feature_Text.f t364 t367 1 6).bind fun bt385 => ((feature_Parse.f t364 t367 (⟨#[45, 118, 111, 119, 101, 108, 43, 118, 111, 105, 99, 101, 100]⟩ : ByteArray)).bind fun bt387 => ((feature_Parse.f t364 t367 (⟨#[43, 118, 111, 105, 99, 101, 100, 45, 118, 111, 105, 99, 101, 100]⟩ : ByteArray)).bind fun bt391 => ((feature_Has.f t364 t367 98 1 2).bind fun bt395 => (if t374 = 0 then (if bt375.2 = 0 then (if bt377.2 = 0 then (if bt382.2.2 = 0 then (if bt385.2 = 0 then (if bt387.2.2.2 = 0 then (if bt391.2.2.2 = 20 then (if bt395.2 = 0 then (cognatelaw02_alive.j0 k t371 bt375.1 bt377.1 bt382.1 bt382.2.1 bt385.1 bt387.1 bt387.2.1 bt387.2.2.1 bt391.2.2.1 bt395.1 ((t371.length : Int) != 2) t364 t367) else (cognatelaw02_alive.j0 k t371 bt375.1 bt377.1 bt382.1 bt382.2.1 bt385.1 bt387.1 bt387.2.1 bt387.2.2.1 bt391.2.2.1 bt395.1 true t364 t367)) else (cognatelaw02_alive.j0 k t371 bt375.1 bt377.1 bt382.1 bt382.2.1 bt385.1 bt387.1 bt387.2.1 bt387.2.2.1 bt391.2.2.1 bt395.1 true t364 t367)) else (cognatelaw02_alive.j0 k t371 bt375.1 bt377.1 bt382.1 bt382.2.1 bt385.1 bt387.1 bt387.2.1 bt387.2.2.1 bt391.2.2.1 bt395.1 true t364 t367)) else (cognatelaw02_alive.j0 k t371 bt375.1 bt377.1 bt382.1 bt382.2.1 bt385.1 bt387.1 bt387.2.1 bt387.2.2.1 bt391.2.2.1 bt395.1 true t364 t367)) else (cognatelaw02_alive.j0 k t371 bt375.1 bt377.1 bt382.1 bt382.2.1 bt385.1 bt387.1 bt387.2.1 bt387.2.2.1 bt391.2.2.1 bt395.1 true t364 t367)) else (cognatelaw02_alive.j0 k t371 bt375.1 bt377.1 bt382.1 bt382.2.1 bt385.1 bt387.1 bt387.2.1 bt387.2.2.1 bt391.2.2.1 bt395.1 true t364 t367)) else (cognatelaw02_alive.j0 k t371 bt375.1 bt377.1 bt382.1 bt382.2.1 bt385.1 bt387.1 bt387.2.1 bt387.2.2.1 bt391.2.2.1 bt395.1 true t364 t367)) else (cognatelaw02_alive.j0 k t371 bt375.1 bt377.1 bt382.1 bt382.2.1 bt385.1 bt387.1 bt387.2.1 bt387.2.2.1 bt391.2.2.1 bt395.1 true t364 t367))))))))) = some r := H
  have A2 := Aside0.mk A20
  clear A20
  replace H := Option.bind_eq_some_iff.mp H
  obtain ⟨⟨t375, t376⟩, A30, H⟩ := H
  replace H : ((feature_Far.f t364 t367 112 104).bind fun bt377 => ((feature_Least.f k t364 t367 (([98, 109] : List Int))).bind fun bt382 => ((feature_Text.f t364 t367 1 6).bind fun bt385 => ((feature_Parse.f t364 t367 (⟨#[45, 118, 111, 119, 101, 108, 43, 118, 111, 105, 99, 101, 100]⟩ : ByteArray)).bind fun bt387 => ((feature_Parse.f t364 t367 (⟨#[43, 118, 111, 105, 99, 101, 100, 45, 118, 111, 105, 99, 101, 100]⟩ : ByteArray)).bind fun bt391 => ((feature_Has.f t364 t367 98 1 2).bind fun bt395 => (if t374 = 0 then (if t376 = 0 then (if bt377.2 = 0 then (if bt382.2.2 = 0 then (if bt385.2 = 0 then (if bt387.2.2.2 = 0 then (if bt391.2.2.2 = 20 then (if bt395.2 = 0 then (cognatelaw02_alive.j0 k t371 t375 bt377.1 bt382.1 bt382.2.1 bt385.1 bt387.1 bt387.2.1 bt387.2.2.1 bt391.2.2.1 bt395.1 ((t371.length : Int) != 2) t364 t367) else (cognatelaw02_alive.j0 k t371 t375 bt377.1 bt382.1 bt382.2.1 bt385.1 bt387.1 bt387.2.1 bt387.2.2.1 bt391.2.2.1 bt395.1 true t364 t367)) else (cognatelaw02_alive.j0 k t371 t375 bt377.1 bt382.1 bt382.2.1 bt385.1 bt387.1 bt387.2.1 bt387.2.2.1 bt391.2.2.1 bt395.1 true t364 t367)) else (cognatelaw02_alive.j0 k t371 t375 bt377.1 bt382.1 bt382.2.1 bt385.1 bt387.1 bt387.2.1 bt387.2.2.1 bt391.2.2.1 bt395.1 true t364 t367)) else (cognatelaw02_alive.j0 k t371 t375 bt377.1 bt382.1 bt382.2.1 bt385.1 bt387.1 bt387.2.1 bt387.2.2.1 bt391.2.2.1 bt395.1 true t364 t367)) else (cognatelaw02_alive.j0 k t371 t375 bt377.1 bt382.1 bt382.2.1 bt385.1 bt387.1 bt387.2.1 bt387.2.2.1 bt391.2.2.1 bt395.1 true t364 t367)) else (cognatelaw02_alive.j0 k t371 t375 bt377.1 bt382.1 bt382.2.1 bt385.1 bt387.1 bt387.2.1 bt387.2.2.1 bt391.2.2.1 bt395.1 true t364 t367)) else (cognatelaw02_alive.j0 k t371 t375 bt377.1 bt382.1 bt382.2.1 bt385.1 bt387.1 bt387.2.1 bt387.2.2.1 bt391.2.2.1 bt395.1 true t364 t367)) else (cognatelaw02_alive.j0 k t371 t375 bt377.1 bt382.1 bt382.2.1 bt385.1 bt387.1 bt387.2.1 bt387.2.2.1 bt391.2.2.1 bt395.1 true t364 t367)))))))) = some r := H
  have A3 := Aside0.mk A30
  clear A30
  replace H := Option.bind_eq_some_iff.mp H
  obtain ⟨⟨t377, t378⟩, A40, H⟩ := H
  replace H : ((feature_Least.f k t364 t367 (([98, 109] : List Int))).bind fun bt382 => ((feature_Text.f t364 t367 1 6).bind fun bt385 => ((feature_Parse.f t364 t367 (⟨#[45, 118, 111, 119, 101, 108, 43, 118, 111, 105, 99, 101, 100]⟩ : ByteArray)).bind fun bt387 => ((feature_Parse.f t364 t367 (⟨#[43, 118, 111, 105, 99, 101, 100, 45, 118, 111, 105, 99, 101, 100]⟩ : ByteArray)).bind fun bt391 => ((feature_Has.f t364 t367 98 1 2).bind fun bt395 => (if t374 = 0 then (if t376 = 0 then (if t378 = 0 then (if bt382.2.2 = 0 then (if bt385.2 = 0 then (if bt387.2.2.2 = 0 then (if bt391.2.2.2 = 20 then (if bt395.2 = 0 then (cognatelaw02_alive.j0 k t371 t375 t377 bt382.1 bt382.2.1 bt385.1 bt387.1 bt387.2.1 bt387.2.2.1 bt391.2.2.1 bt395.1 ((t371.length : Int) != 2) t364 t367) else (cognatelaw02_alive.j0 k t371 t375 t377 bt382.1 bt382.2.1 bt385.1 bt387.1 bt387.2.1 bt387.2.2.1 bt391.2.2.1 bt395.1 true t364 t367)) else (cognatelaw02_alive.j0 k t371 t375 t377 bt382.1 bt382.2.1 bt385.1 bt387.1 bt387.2.1 bt387.2.2.1 bt391.2.2.1 bt395.1 true t364 t367)) else (cognatelaw02_alive.j0 k t371 t375 t377 bt382.1 bt382.2.1 bt385.1 bt387.1 bt387.2.1 bt387.2.2.1 bt391.2.2.1 bt395.1 true t364 t367)) else (cognatelaw02_alive.j0 k t371 t375 t377 bt382.1 bt382.2.1 bt385.1 bt387.1 bt387.2.1 bt387.2.2.1 bt391.2.2.1 bt395.1 true t364 t367)) else (cognatelaw02_alive.j0 k t371 t375 t377 bt382.1 bt382.2.1 bt385.1 bt387.1 bt387.2.1 bt387.2.2.1 bt391.2.2.1 bt395.1 true t364 t367)) else (cognatelaw02_alive.j0 k t371 t375 t377 bt382.1 bt382.2.1 bt385.1 bt387.1 bt387.2.1 bt387.2.2.1 bt391.2.2.1 bt395.1 true t364 t367)) else (cognatelaw02_alive.j0 k t371 t375 t377 bt382.1 bt382.2.1 bt385.1 bt387.1 bt387.2.1 bt387.2.2.1 bt391.2.2.1 bt395.1 true t364 t367)) else (cognatelaw02_alive.j0 k t371 t375 t377 bt382.1 bt382.2.1 bt385.1 bt387.1 bt387.2.1 bt387.2.2.1 bt391.2.2.1 bt395.1 true t364 t367))))))) = some r := H
  have A4 := Aside0.mk A40
  clear A40
  obtain ⟨y379, hy379⟩ : ∃ y_ : List Int, y_ = (([98, 109] : List Int)) := ⟨_, rfl⟩
  replace H : ((feature_Least.f k t364 t367 y379).bind fun bt382 => ((feature_Text.f t364 t367 1 6).bind fun bt385 => ((feature_Parse.f t364 t367 (⟨#[45, 118, 111, 119, 101, 108, 43, 118, 111, 105, 99, 101, 100]⟩ : ByteArray)).bind fun bt387 => ((feature_Parse.f t364 t367 (⟨#[43, 118, 111, 105, 99, 101, 100, 45, 118, 111, 105, 99, 101, 100]⟩ : ByteArray)).bind fun bt391 => ((feature_Has.f t364 t367 98 1 2).bind fun bt395 => (if t374 = 0 then (if t376 = 0 then (if t378 = 0 then (if bt382.2.2 = 0 then (if bt385.2 = 0 then (if bt387.2.2.2 = 0 then (if bt391.2.2.2 = 20 then (if bt395.2 = 0 then (cognatelaw02_alive.j0 k t371 t375 t377 bt382.1 bt382.2.1 bt385.1 bt387.1 bt387.2.1 bt387.2.2.1 bt391.2.2.1 bt395.1 ((t371.length : Int) != 2) t364 t367) else (cognatelaw02_alive.j0 k t371 t375 t377 bt382.1 bt382.2.1 bt385.1 bt387.1 bt387.2.1 bt387.2.2.1 bt391.2.2.1 bt395.1 true t364 t367)) else (cognatelaw02_alive.j0 k t371 t375 t377 bt382.1 bt382.2.1 bt385.1 bt387.1 bt387.2.1 bt387.2.2.1 bt391.2.2.1 bt395.1 true t364 t367)) else (cognatelaw02_alive.j0 k t371 t375 t377 bt382.1 bt382.2.1 bt385.1 bt387.1 bt387.2.1 bt387.2.2.1 bt391.2.2.1 bt395.1 true t364 t367)) else (cognatelaw02_alive.j0 k t371 t375 t377 bt382.1 bt382.2.1 bt385.1 bt387.1 bt387.2.1 bt387.2.2.1 bt391.2.2.1 bt395.1 true t364 t367)) else (cognatelaw02_alive.j0 k t371 t375 t377 bt382.1 bt382.2.1 bt385.1 bt387.1 bt387.2.1 bt387.2.2.1 bt391.2.2.1 bt395.1 true t364 t367)) else (cognatelaw02_alive.j0 k t371 t375 t377 bt382.1 bt382.2.1 bt385.1 bt387.1 bt387.2.1 bt387.2.2.1 bt391.2.2.1 bt395.1 true t364 t367)) else (cognatelaw02_alive.j0 k t371 t375 t377 bt382.1 bt382.2.1 bt385.1 bt387.1 bt387.2.1 bt387.2.2.1 bt391.2.2.1 bt395.1 true t364 t367)) else (cognatelaw02_alive.j0 k t371 t375 t377 bt382.1 bt382.2.1 bt385.1 bt387.1 bt387.2.1 bt387.2.2.1 bt391.2.2.1 bt395.1 true t364 t367))))))) = some r := by first | (rw [hy379]; with_reducible exact H) | (have H2_ := (Option.bind_some _ _).symm.trans H; rw [hy379]; with_reducible exact H2_) | (have H2_ := (Option.bind_some _ _).symm.trans H; with_reducible exact H2_) | with_reducible exact H | (rw [hy379]; exact H) | exact H
  have Ny379 := Aside0.mk hy379
  clear hy379
  replace H := Option.bind_eq_some_iff.mp H
  obtain ⟨⟨t382, t383, t384⟩, A50, H⟩ := H
  replace H : ((feature_Text.f t364 t367 1 6).bind fun bt385 => ((feature_Parse.f t364 t367 (⟨#[45, 118, 111, 119, 101, 108, 43, 118, 111, 105, 99, 101, 100]⟩ : ByteArray)).bind fun bt387 => ((feature_Parse.f t364 t367 (⟨#[43, 118, 111, 105, 99, 101, 100, 45, 118, 111, 105, 99, 101, 100]⟩ : ByteArray)).bind fun bt391 => ((feature_Has.f t364 t367 98 1 2).bind fun bt395 => (if t374 = 0 then (if t376 = 0 then (if t378 = 0 then (if t384 = 0 then (if bt385.2 = 0 then (if bt387.2.2.2 = 0 then (if bt391.2.2.2 = 20 then (if bt395.2 = 0 then (cognatelaw02_alive.j0 k t371 t375 t377 t382 t383 bt385.1 bt387.1 bt387.2.1 bt387.2.2.1 bt391.2.2.1 bt395.1 ((t371.length : Int) != 2) t364 t367) else (cognatelaw02_alive.j0 k t371 t375 t377 t382 t383 bt385.1 bt387.1 bt387.2.1 bt387.2.2.1 bt391.2.2.1 bt395.1 true t364 t367)) else (cognatelaw02_alive.j0 k t371 t375 t377 t382 t383 bt385.1 bt387.1 bt387.2.1 bt387.2.2.1 bt391.2.2.1 bt395.1 true t364 t367)) else (cognatelaw02_alive.j0 k t371 t375 t377 t382 t383 bt385.1 bt387.1 bt387.2.1 bt387.2.2.1 bt391.2.2.1 bt395.1 true t364 t367)) else (cognatelaw02_alive.j0 k t371 t375 t377 t382 t383 bt385.1 bt387.1 bt387.2.1 bt387.2.2.1 bt391.2.2.1 bt395.1 true t364 t367)) else (cognatelaw02_alive.j0 k t371 t375 t377 t382 t383 bt385.1 bt387.1 bt387.2.1 bt387.2.2.1 bt391.2.2.1 bt395.1 true t364 t367)) else (cognatelaw02_alive.j0 k t371 t375 t377 t382 t383 bt385.1 bt387.1 bt387.2.1 bt387.2.2.1 bt391.2.2.1 bt395.1 true t364 t367)) else (cognatelaw02_alive.j0 k t371 t375 t377 t382 t383 bt385.1 bt387.1 bt387.2.1 bt387.2.2.1 bt391.2.2.1 bt395.1 true t364 t367)) else (cognatelaw02_alive.j0 k t371 t375 t377 t382 t383 bt385.1 bt387.1 bt387.2.1 bt387.2.2.1 bt391.2.2.1 bt395.1 true t364 t367)))))) = some r := H
  have A5 := Aside0.mk A50
  clear A50
  replace H := Option.bind_eq_some_iff.mp H
  obtain ⟨⟨t385, t386⟩, A60, H⟩ := H
  replace H : ((feature_Parse.f t364 t367 (⟨#[45, 118, 111, 119, 101, 108, 43, 118, 111, 105, 99, 101, 100]⟩ : ByteArray)).bind fun bt387 => ((feature_Parse.f t364 t367 (⟨#[43, 118, 111, 105, 99, 101, 100, 45, 118, 111, 105, 99, 101, 100]⟩ : ByteArray)).bind fun bt391 => ((feature_Has.f t364 t367 98 1 2).bind fun bt395 => (if t374 = 0 then (if t376 = 0 then (if t378 = 0 then (if t384 = 0 then (if t386 = 0 then (if bt387.2.2.2 = 0 then (if bt391.2.2.2 = 20 then (if bt395.2 = 0 then (cognatelaw02_alive.j0 k t371 t375 t377 t382 t383 t385 bt387.1 bt387.2.1 bt387.2.2.1 bt391.2.2.1 bt395.1 ((t371.length : Int) != 2) t364 t367) else (cognatelaw02_alive.j0 k t371 t375 t377 t382 t383 t385 bt387.1 bt387.2.1 bt387.2.2.1 bt391.2.2.1 bt395.1 true t364 t367)) else (cognatelaw02_alive.j0 k t371 t375 t377 t382 t383 t385 bt387.1 bt387.2.1 bt387.2.2.1 bt391.2.2.1 bt395.1 true t364 t367)) else (cognatelaw02_alive.j0 k t371 t375 t377 t382 t383 t385 bt387.1 bt387.2.1 bt387.2.2.1 bt391.2.2.1 bt395.1 true t364 t367)) else (cognatelaw02_alive.j0 k t371 t375 t377 t382 t383 t385 bt387.1 bt387.2.1 bt387.2.2.1 bt391.2.2.1 bt395.1 true t364 t367)) else (cognatelaw02_alive.j0 k t371 t375 t377 t382 t383 t385 bt387.1 bt387.2.1 bt387.2.2.1 bt391.2.2.1 bt395.1 true t364 t367)) else (cognatelaw02_alive.j0 k t371 t375 t377 t382 t383 t385 bt387.1 bt387.2.1 bt387.2.2.1 bt391.2.2.1 bt395.1 true t364 t367)) else (cognatelaw02_alive.j0 k t371 t375 t377 t382 t383 t385 bt387.1 bt387.2.1 bt387.2.2.1 bt391.2.2.1 bt395.1 true t364 t367)) else (cognatelaw02_alive.j0 k t371 t375 t377 t382 t383 t385 bt387.1 bt387.2.1 bt387.2.2.1 bt391.2.2.1 bt395.1 true t364 t367))))) = some r := H
  have A6 := Aside0.mk A60
  clear A60
  replace H := Option.bind_eq_some_iff.mp H
  obtain ⟨⟨t387, t388, t389, t390⟩, A70, H⟩ := H
  replace H : ((feature_Parse.f t364 t367 (⟨#[43, 118, 111, 105, 99, 101, 100, 45, 118, 111, 105, 99, 101, 100]⟩ : ByteArray)).bind fun bt391 => ((feature_Has.f t364 t367 98 1 2).bind fun bt395 => (if t374 = 0 then (if t376 = 0 then (if t378 = 0 then (if t384 = 0 then (if t386 = 0 then (if t390 = 0 then (if bt391.2.2.2 = 20 then (if bt395.2 = 0 then (cognatelaw02_alive.j0 k t371 t375 t377 t382 t383 t385 t387 t388 t389 bt391.2.2.1 bt395.1 ((t371.length : Int) != 2) t364 t367) else (cognatelaw02_alive.j0 k t371 t375 t377 t382 t383 t385 t387 t388 t389 bt391.2.2.1 bt395.1 true t364 t367)) else (cognatelaw02_alive.j0 k t371 t375 t377 t382 t383 t385 t387 t388 t389 bt391.2.2.1 bt395.1 true t364 t367)) else (cognatelaw02_alive.j0 k t371 t375 t377 t382 t383 t385 t387 t388 t389 bt391.2.2.1 bt395.1 true t364 t367)) else (cognatelaw02_alive.j0 k t371 t375 t377 t382 t383 t385 t387 t388 t389 bt391.2.2.1 bt395.1 true t364 t367)) else (cognatelaw02_alive.j0 k t371 t375 t377 t382 t383 t385 t387 t388 t389 bt391.2.2.1 bt395.1 true t364 t367)) else (cognatelaw02_alive.j0 k t371 t375 t377 t382 t383 t385 t387 t388 t389 bt391.2.2.1 bt395.1 true t364 t367)) else (cognatelaw02_alive.j0 k t371 t375 t377 t382 t383 t385 t387 t388 t389 bt391.2.2.1 bt395.1 true t364 t367)) else (cognatelaw02_alive.j0 k t371 t375 t377 t382 t383 t385 t387 t388 t389 bt391.2.2.1 bt395.1 true t364 t367)))) = some r := H
  have A7 := Aside0.mk A70
  clear A70
  replace H := Option.bind_eq_some_iff.mp H
  obtain ⟨⟨t391, t392, t393, t394⟩, A80, H⟩ := H
  replace H : ((feature_Has.f t364 t367 98 1 2).bind fun bt395 => (if t374 = 0 then (if t376 = 0 then (if t378 = 0 then (if t384 = 0 then (if t386 = 0 then (if t390 = 0 then (if t394 = 20 then (if bt395.2 = 0 then (cognatelaw02_alive.j0 k t371 t375 t377 t382 t383 t385 t387 t388 t389 t393 bt395.1 ((t371.length : Int) != 2) t364 t367) else (cognatelaw02_alive.j0 k t371 t375 t377 t382 t383 t385 t387 t388 t389 t393 bt395.1 true t364 t367)) else (cognatelaw02_alive.j0 k t371 t375 t377 t382 t383 t385 t387 t388 t389 t393 bt395.1 true t364 t367)) else (cognatelaw02_alive.j0 k t371 t375 t377 t382 t383 t385 t387 t388 t389 t393 bt395.1 true t364 t367)) else (cognatelaw02_alive.j0 k t371 t375 t377 t382 t383 t385 t387 t388 t389 t393 bt395.1 true t364 t367)) else (cognatelaw02_alive.j0 k t371 t375 t377 t382 t383 t385 t387 t388 t389 t393 bt395.1 true t364 t367)) else (cognatelaw02_alive.j0 k t371 t375 t377 t382 t383 t385 t387 t388 t389 t393 bt395.1 true t364 t367)) else (cognatelaw02_alive.j0 k t371 t375 t377 t382 t383 t385 t387 t388 t389 t393 bt395.1 true t364 t367)) else (cognatelaw02_alive.j0 k t371 t375 t377 t382 t383 t385 t387 t388 t389 t393 bt395.1 true t364 t367))) = some r := H
  have A8 := Aside0.mk A80
  clear A80
  replace H := Option.bind_eq_some_iff.mp H
  obtain ⟨⟨t395, t396⟩, A90, H⟩ := H
  replace H : (if t374 = 0 then (if t376 = 0 then (if t378 = 0 then (if t384 = 0 then (if t386 = 0 then (if t390 = 0 then (if t394 = 20 then (if t396 = 0 then (cognatelaw02_alive.j0 k t371 t375 t377 t382 t383 t385 t387 t388 t389 t393 t395 ((t371.length : Int) != 2) t364 t367) else (cognatelaw02_alive.j0 k t371 t375 t377 t382 t383 t385 t387 t388 t389 t393 t395 true t364 t367)) else (cognatelaw02_alive.j0 k t371 t375 t377 t382 t383 t385 t387 t388 t389 t393 t395 true t364 t367)) else (cognatelaw02_alive.j0 k t371 t375 t377 t382 t383 t385 t387 t388 t389 t393 t395 true t364 t367)) else (cognatelaw02_alive.j0 k t371 t375 t377 t382 t383 t385 t387 t388 t389 t393 t395 true t364 t367)) else (cognatelaw02_alive.j0 k t371 t375 t377 t382 t383 t385 t387 t388 t389 t393 t395 true t364 t367)) else (cognatelaw02_alive.j0 k t371 t375 t377 t382 t383 t385 t387 t388 t389 t393 t395 true t364 t367)) else (cognatelaw02_alive.j0 k t371 t375 t377 t382 t383 t385 t387 t388 t389 t393 t395 true t364 t367)) else (cognatelaw02_alive.j0 k t371 t375 t377 t382 t383 t385 t387 t388 t389 t393 t395 true t364 t367)) = some r := H
  have A9 := Aside0.mk A90
  clear A90
  have HC10 := Aside0.mk H
  clear H
  go_enter Tryd.func25, Tryd.ntmps25
  go_upto_region 10 with (first | ((with_reducible refine gate_callee (f := 64) rfl ?_); refine goesL_ (some 23) rfl rfl Tryd.func64 (by kernel_rfl) rfl #[] rfl (by (try simp only [List.map_toArray, List.map_cons, List.map_nil]); first | done | rfl | (simp only [List.length_drop, List.length_take]; rfl)) ?_; (with_reducible refine (cognatelaw02_sample.calls  t364 t367 _ A1.out).mono ?_); rintro e w11 ⟨v365, v368, rfl, ho0, ho1, hb⟩; refine ⟨_, rfl, ?_⟩; have n0_ := Aside0.mk (Kd.R_lower ho0 (below_size (by repeat (first | (with_reducible first | exact HB.out | apply below_alloc | apply pw_below_drewN | apply below_drew1) | exact HB.out)))); have n1_ := Aside0.mk (Kd.R_lower ho1 (below_size (by repeat (first | (with_reducible first | exact HB.out | apply below_alloc | apply pw_below_drewN | apply below_drew1) | exact HB.out)))); have n2_ := Aside0.mk (below_step (by repeat (first | (with_reducible first | exact HB.out | apply below_alloc | apply pw_below_drewN | apply below_drew1) | exact HB.out)) hb); clear HB; have HO366 := n0_; have HO369 := n1_; have HB := n2_; clear n0_ n1_ n2_; (try clear hb); (try clear hb2); (try clear hk); (try clear hi); (try clear ho0); (try clear ho1)) | ((with_reducible refine gate_dst (N := 1) rfl ?_); (try (refine gate_guard (by rfl) ?_; dsimp only)); refine box_event ?hg (N := 1) ?hd (cs := #[.slice none 0 0, .slice none 0 0]) (t := 25) ?hr ?_; (case hd => rfl); (case hg => rfl); (case hr => first | (go_simp; done) | (go_simp; rfl)); intro gb370 hg w12 hbox hb; have n0_ := Aside0.mk (Kd.R_below (by (with_reducible repeat (first | apply Kd.R_alloc | apply Kd.R_drewN | apply Kd.R_drew)); exact HO366.out) hb); have n1_ := Aside0.mk (Kd.R_below (by (with_reducible repeat (first | apply Kd.R_alloc | apply Kd.R_drewN | apply Kd.R_drew)); exact HO369.out) hb); have n2_ := Aside0.mk (below_step (by repeat (first | (with_reducible first | exact HB.out | apply below_alloc | apply pw_below_drewN | apply below_drew1) | exact HB.out)) hb); have n3_ := Aside0.mk (hbox); have n4_ := Aside0.mk ((by rw [hg]; exact (below_size (by repeat (first | (with_reducible first | exact HB.out | apply below_alloc | apply pw_below_drewN | apply below_drew1) | exact HB.out))) : w.heap.size ≤ gb370)); have n5_ := Aside0.mk ((by rw [hg]; exact (below_size (by repeat (first | (with_reducible first | exact HB.out | apply below_alloc | apply pw_below_drewN | apply below_drew1) | exact HB.out))) : w.heap.size ≤ gb370)); clear HO366; clear HO369; clear HB; have HO366 := n0_; have HO369 := n1_; have HB := n2_; have BK370 := n3_; have GW370 := n4_; have GE370 := n5_; clear n0_ n1_ n2_ n3_ n4_ n5_; clear hb hbox hg; obtain ⟨Ao13, co13, eo13⟩ := Kd.R_slice HO366.out; subst eo13; have hcz14_0 : w12.cell? ⟨gb370, 0, none⟩ = some (.slice none 0 0) := (blk_cell BK370.out 0).trans rfl; have hcz14_1 : w12.cell? ⟨gb370, 1, none⟩ = some (.slice none 0 0) := (blk_cell BK370.out 1).trans rfl; have hfz14_0 := blk_frozen BK370.out 0; have hfz14_1 := blk_frozen BK370.out 1; obtain ⟨Ao15, co15, eo15⟩ := Kd.R_slice HO369.out; subst eo15) | ((with_reducible refine gate_callee (f := 32) rfl ?_); refine goesL_ (some 26) rfl rfl Tryd.func32 (by kernel_rfl) rfl #[.agg #[.slice Ao13 t364.length co13, .slice Ao15 t367.length co15], .int .u32 1, .int .u32 4] rfl (by (try simp only [List.map_toArray, List.map_cons, List.map_nil]); first | done | rfl | (simp only [List.length_drop, List.length_take]; rfl)) ?_; (with_reducible refine (feature_Class.calls k _ _ t364 _ _ t367 1 4 t371 t374 _ ?side1 ?side2 ?side3 ?side4 A2.out).mono ?_); (case side1 => refine (Kd.R_reads' (e := 9) (base := w.heap.size) (ok := fun k_ => True) (n := t364.length) (c := co13) ?_).2.2; exact (by (with_reducible repeat (first | apply Kd.R_alloc | apply Kd.R_drewN | apply Kd.R_drew)); exact (Kd.R_mono (Kd.R_far (p := ⟨gb370, 1, none⟩) (Kd.R_far (p := ⟨gb370, 0, none⟩) (Kd.R_types HO366.out BK370.out (by decide)) (fun _ hk => hk.2) (.slice Ao13 t364.length co13)) (fun _ hk => hk.2) (.slice Ao15 t367.length co15)) (fun _ h_ => h_.1)))); (case side2 => exact (Kd.R_reads' HO366.out).2.1); (case side3 => refine (Kd.R_reads' (e := 53) (base := w.heap.size) (ok := fun k_ => True) (n := t367.length) (c := co15) ?_).2.2; exact (by (with_reducible repeat (first | apply Kd.R_alloc | apply Kd.R_drewN | apply Kd.R_drew)); exact (Kd.R_mono (Kd.R_far (p := ⟨gb370, 1, none⟩) (Kd.R_far (p := ⟨gb370, 0, none⟩) (Kd.R_types HO369.out BK370.out (by decide)) (fun _ hk => hk.2) (.slice Ao13 t364.length co13)) (fun _ hk => hk.2) (.slice Ao15 t367.length co15)) (fun _ h_ => h_.1)))); (case side4 => exact (Kd.R_reads' HO369.out).2.1); rintro e w16 ⟨v372, rfl, ho0, hb⟩; refine ⟨_, rfl, ?_⟩; have n0_ := Aside0.mk (Kd.R_below (by (with_reducible repeat (first | apply Kd.R_alloc | apply Kd.R_drewN | apply Kd.R_drew)); exact (Kd.R_mono (Kd.R_far (p := ⟨gb370, 1, none⟩) (Kd.R_far (p := ⟨gb370, 0, none⟩) (Kd.R_types HO366.out BK370.out (by decide)) (fun _ hk => hk.2) (.slice Ao13 t364.length co13)) (fun _ hk => hk.2) (.slice Ao15 t367.length co15)) (fun _ h_ => h_.1))) hb); have n1_ := Aside0.mk (Kd.R_below (by (with_reducible repeat (first | apply Kd.R_alloc | apply Kd.R_drewN | apply Kd.R_drew)); exact (Kd.R_mono (Kd.R_far (p := ⟨gb370, 1, none⟩) (Kd.R_far (p := ⟨gb370, 0, none⟩) (Kd.R_types HO369.out BK370.out (by decide)) (fun _ hk => hk.2) (.slice Ao13 t364.length co13)) (fun _ hk => hk.2) (.slice Ao15 t367.length co15)) (fun _ h_ => h_.1))) hb); have n2_ := Aside0.mk (Kd.R_lower ho0 (below_size (by repeat (first | (with_reducible first | exact HB.out | apply below_alloc | apply pw_below_drewN | apply below_drew1 | refine below_set ?_ GE370.out) | exact HB.out)))); have n3_ := Aside0.mk (blk_below (g := gb370) (o := .cells #[.slice Ao13 t364.length co13, .slice Ao15 t367.length co15] 25 (0, 0)) (by (with_reducible repeat (first | refine blk_drewN ?_ _ | refine blk_drew ?_ | refine blk_alloc ?_ _)); refine blk_put (cs := #[.slice Ao13 t364.length co13, .slice none 0 0]) ?_ 1 _ rfl; (with_reducible repeat (first | refine blk_drewN ?_ _ | refine blk_drew ?_ | refine blk_alloc ?_ _)); refine blk_put (cs := #[.slice none 0 0, .slice none 0 0]) ?_ 0 _ rfl; (with_reducible repeat (first | refine blk_drewN ?_ _ | refine blk_drew ?_ | refine blk_alloc ?_ _)); exact BK370.out) hb); have n4_ := Aside0.mk (below_step (by repeat (first | (with_reducible first | exact HB.out | apply below_alloc | apply pw_below_drewN | apply below_drew1 | refine below_set ?_ GE370.out) | exact HB.out)) hb); clear HO366; clear HO369; clear BK370; clear HB; have HO366 := n0_; have HO369 := n1_; have HO373 := n2_; have BK370 := n3_; have HB := n4_; clear n0_ n1_ n2_ n3_ n4_; (try clear hb); (try clear hb2); (try clear hk); (try clear hi); (try clear ho0); have hcz17_0 : w16.cell? ⟨gb370, 0, none⟩ = some (.slice Ao13 t364.length co13) := (blk_cell BK370.out 0).trans rfl; have hcz17_1 : w16.cell? ⟨gb370, 1, none⟩ = some (.slice Ao15 t367.length co15) := (blk_cell BK370.out 1).trans rfl; have hfz17_0 := blk_frozen BK370.out 0; have hfz17_1 := blk_frozen BK370.out 1) | ((with_reducible refine gate_callee (f := 34) rfl ?_); refine goesL_ (some 31) rfl rfl Tryd.func34 (by kernel_rfl) rfl #[.agg #[.slice Ao13 t364.length co13, .slice Ao15 t367.length co15], .int .i32 98, .int .u32 2, .int .u32 1] rfl (by (try simp only [List.map_toArray, List.map_cons, List.map_nil]); first | done | rfl | (simp only [List.length_drop, List.length_take]; rfl)) ?_; (with_reducible refine (feature_Near.calls _ _ t364 _ _ t367 98 2 1 t375 t376 _ ?side1 ?side2 ?side3 ?side4 A3.out).mono ?_); (case side1 => repeat (first | exact (Kd.R_reads' HO366.out).2.2 | (with_reducible refine Kd.C_alloc ?_ _) | (with_reducible refine Kd.C_drewN ?_ _) | (with_reducible refine Kd.C_drew ?_))); (case side2 => exact (Kd.R_reads' HO366.out).2.1); (case side3 => repeat (first | exact (Kd.R_reads' HO369.out).2.2 | (with_reducible refine Kd.C_alloc ?_ _) | (with_reducible refine Kd.C_drewN ?_ _) | (with_reducible refine Kd.C_drew ?_))); (case side4 => exact (Kd.R_reads' HO369.out).2.1); rintro e w18 ⟨rfl, hb⟩; refine ⟨_, rfl, ?_⟩; have n0_ := Aside0.mk (Kd.R_below (by (with_reducible repeat (first | apply Kd.R_alloc | apply Kd.R_drewN | apply Kd.R_drew)); exact HO366.out) hb); have n1_ := Aside0.mk (Kd.R_below (by (with_reducible repeat (first | apply Kd.R_alloc | apply Kd.R_drewN | apply Kd.R_drew)); exact HO369.out) hb); have n2_ := Aside0.mk (Kd.R_below (by (with_reducible repeat (first | apply Kd.R_alloc | apply Kd.R_drewN | apply Kd.R_drew)); exact HO373.out) hb); have n3_ := Aside0.mk (blk_below (g := gb370) (o := .cells #[.slice Ao13 t364.length co13, .slice Ao15 t367.length co15] 25 (0, 0)) (by (with_reducible repeat (first | refine blk_drewN ?_ _ | refine blk_drew ?_ | refine blk_alloc ?_ _)); exact BK370.out) hb); have n4_ := Aside0.mk (below_step (by repeat (first | (with_reducible first | exact HB.out | apply below_alloc | apply pw_below_drewN | apply below_drew1 | refine below_set ?_ GE370.out) | exact HB.out)) hb); clear HO366; clear HO369; clear HO373; clear BK370; clear HB; have HO366 := n0_; have HO369 := n1_; have HO373 := n2_; have BK370 := n3_; have HB := n4_; clear n0_ n1_ n2_ n3_ n4_; (try clear hb); (try clear hb2); (try clear hk); (try clear hi); have hcz19_0 : w18.cell? ⟨gb370, 0, none⟩ = some (.slice Ao13 t364.length co13) := (blk_cell BK370.out 0).trans rfl; have hcz19_1 : w18.cell? ⟨gb370, 1, none⟩ = some (.slice Ao15 t367.length co15) := (blk_cell BK370.out 1).trans rfl; have hfz19_0 := blk_frozen BK370.out 0; have hfz19_1 := blk_frozen BK370.out 1) | ((with_reducible refine gate_callee (f := 33) rfl ?_); refine goesL_ (some 36) rfl rfl Tryd.func33 (by kernel_rfl) rfl #[.agg #[.slice Ao13 t364.length co13, .slice Ao15 t367.length co15], .int .i32 112, .int .i32 104] rfl (by (try simp only [List.map_toArray, List.map_cons, List.map_nil]); first | done | rfl | (simp only [List.length_drop, List.length_take]; rfl)) ?_; (with_reducible refine (feature_Far.calls _ _ t364 _ _ t367 112 104 t377 t378 _ ?side1 ?side2 ?side3 ?side4 A4.out).mono ?_); (case side1 => repeat (first | exact (Kd.R_reads' HO366.out).2.2 | (with_reducible refine Kd.C_alloc ?_ _) | (with_reducible refine Kd.C_drewN ?_ _) | (with_reducible refine Kd.C_drew ?_))); (case side2 => exact (Kd.R_reads' HO366.out).2.1); (case side3 => repeat (first | exact (Kd.R_reads' HO369.out).2.2 | (with_reducible refine Kd.C_alloc ?_ _) | (with_reducible refine Kd.C_drewN ?_ _) | (with_reducible refine Kd.C_drew ?_))); (case side4 => exact (Kd.R_reads' HO369.out).2.1); rintro e w20 ⟨rfl, hb⟩; refine ⟨_, rfl, ?_⟩; have n0_ := Aside0.mk (Kd.R_below (by (with_reducible repeat (first | apply Kd.R_alloc | apply Kd.R_drewN | apply Kd.R_drew)); exact HO366.out) hb); have n1_ := Aside0.mk (Kd.R_below (by (with_reducible repeat (first | apply Kd.R_alloc | apply Kd.R_drewN | apply Kd.R_drew)); exact HO369.out) hb); have n2_ := Aside0.mk (Kd.R_below (by (with_reducible repeat (first | apply Kd.R_alloc | apply Kd.R_drewN | apply Kd.R_drew)); exact HO373.out) hb); have n3_ := Aside0.mk (blk_below (g := gb370) (o := .cells #[.slice Ao13 t364.length co13, .slice Ao15 t367.length co15] 25 (0, 0)) (by (with_reducible repeat (first | refine blk_drewN ?_ _ | refine blk_drew ?_ | refine blk_alloc ?_ _)); exact BK370.out) hb); have n4_ := Aside0.mk (below_step (by repeat (first | (with_reducible first | exact HB.out | apply below_alloc | apply pw_below_drewN | apply below_drew1 | refine below_set ?_ GE370.out) | exact HB.out)) hb); clear HO366; clear HO369; clear HO373; clear BK370; clear HB; have HO366 := n0_; have HO369 := n1_; have HO373 := n2_; have BK370 := n3_; have HB := n4_; clear n0_ n1_ n2_ n3_ n4_; (try clear hb); (try clear hb2); (try clear hk); (try clear hi); have hcz21_0 : w20.cell? ⟨gb370, 0, none⟩ = some (.slice Ao13 t364.length co13) := (blk_cell BK370.out 0).trans rfl; have hcz21_1 : w20.cell? ⟨gb370, 1, none⟩ = some (.slice Ao15 t367.length co15) := (blk_cell BK370.out 1).trans rfl; have hfz21_0 := blk_frozen BK370.out 0; have hfz21_1 := blk_frozen BK370.out 1) | ((with_reducible refine gate_dst (N := 41) rfl ?_); (try (refine gate_guard (by rfl) ?_; dsimp only)); refine Kd.R_lit (Kd.int .i32) _ 21 ?hg (N := 41) ?hd (xs := ([98, 109] : List Int)) (inner := [.int .i32 98, .int .i32 109]) (ok := fun _ => True) (okp := fun _ => True) ?hr ?hp (fun _ hk => hk) trivial (Below.refl _ _) (Nat.le_refl _) (by simp) ?_; (case hd => rfl); (case hg => rfl); (case hr => first | (go_simp; done) | (go_simp; rfl)); (case hp => exact (Reps.one (show Kd.M (Kd.int .i32) _ _ _ 98 [.int .i32 98] from rfl) (Reps.one (show Kd.M (Kd.int .i32) _ _ _ 109 [.int .i32 109] from rfl) (Reps.none _ _)))); intro v380 w22 ho23 hb hg_ hnew_; clear hg_ hnew_; (first | rw [← Ny379.out] at ho23 | (simp only [Int.reduceToNat] at ho23; rw [← Ny379.out] at ho23)); have n0_ := Aside0.mk (Kd.R_below (by (with_reducible repeat (first | apply Kd.R_alloc | apply Kd.R_drewN | apply Kd.R_drew)); exact HO366.out) hb); have n1_ := Aside0.mk (Kd.R_below (by (with_reducible repeat (first | apply Kd.R_alloc | apply Kd.R_drewN | apply Kd.R_drew)); exact HO369.out) hb); have n2_ := Aside0.mk (Kd.R_elder' (by (with_reducible repeat (first | apply Kd.R_alloc | apply Kd.R_drewN | apply Kd.R_drew)); exact HO373.out) (Kd.R_base ho23) hb); have n3_ := Aside0.mk (Kd.R_lower (Kd.R_new' ho23 (Kd.R_lt (by (with_reducible repeat (first | apply Kd.R_alloc | apply Kd.R_drewN | apply Kd.R_drew)); exact HO373.out))) (below_size (by repeat (first | (with_reducible first | exact HB.out | apply below_alloc | apply pw_below_drewN | apply below_drew1 | refine below_set ?_ GE370.out) | exact HB.out)))); have n4_ := Aside0.mk (blk_below (g := gb370) (o := .cells #[.slice Ao13 t364.length co13, .slice Ao15 t367.length co15] 25 (0, 0)) (by (with_reducible repeat (first | refine blk_drewN ?_ _ | refine blk_drew ?_ | refine blk_alloc ?_ _)); exact BK370.out) hb); have n5_ := Aside0.mk (below_step (by repeat (first | (with_reducible first | exact HB.out | apply below_alloc | apply pw_below_drewN | apply below_drew1 | refine below_set ?_ GE370.out) | exact HB.out)) hb); clear HO366; clear HO369; clear HO373; clear BK370; clear HB; have HO366 := n0_; have HO369 := n1_; have HO373 := n2_; have HO381 := n3_; have BK370 := n4_; have HB := n5_; clear n0_ n1_ n2_ n3_ n4_ n5_; clear hb ho23; obtain ⟨Ao24, co24, eo24⟩ := Kd.R_slice HO381.out; subst eo24) | ((with_reducible refine gate_callee (f := 28) rfl ?_); refine goesL_ (some 42) rfl rfl Tryd.func28 (by kernel_rfl) rfl #[.agg #[.slice Ao13 t364.length co13, .slice Ao15 t367.length co15], .slice Ao24 y379.length co24] rfl (by (try simp only [List.map_toArray, List.map_cons, List.map_nil]); first | done | rfl | (simp only [List.length_drop, List.length_take]; rfl)) ?_; (with_reducible refine (feature_Least.calls k _ _ t364 _ _ t367 _ _ y379 t382 t383 t384 _ ?side1 ?side2 ?side3 ?side4 ?side5 ?side6 A5.out).mono ?_); (case side1 => repeat (first | exact (Kd.R_reads' HO366.out).2.2 | (with_reducible refine Kd.C_alloc ?_ _) | (with_reducible refine Kd.C_drewN ?_ _) | (with_reducible refine Kd.C_drew ?_))); (case side2 => exact (Kd.R_reads' HO366.out).2.1); (case side3 => repeat (first | exact (Kd.R_reads' HO369.out).2.2 | (with_reducible refine Kd.C_alloc ?_ _) | (with_reducible refine Kd.C_drewN ?_ _) | (with_reducible refine Kd.C_drew ?_))); (case side4 => exact (Kd.R_reads' HO369.out).2.1); (case side5 => repeat (first | exact (Kd.R_reads' HO381.out).2.2 | (with_reducible refine Kd.C_alloc ?_ _) | (with_reducible refine Kd.C_drewN ?_ _) | (with_reducible refine Kd.C_drew ?_))); (case side6 => exact (Kd.R_reads' HO381.out).2.1); rintro e w25 ⟨rfl, hb⟩; refine ⟨_, rfl, ?_⟩; have n0_ := Aside0.mk (Kd.R_below (by (with_reducible repeat (first | apply Kd.R_alloc | apply Kd.R_drewN | apply Kd.R_drew)); exact HO366.out) hb); have n1_ := Aside0.mk (Kd.R_below (by (with_reducible repeat (first | apply Kd.R_alloc | apply Kd.R_drewN | apply Kd.R_drew)); exact HO369.out) hb); have n2_ := Aside0.mk (Kd.R_below (by (with_reducible repeat (first | apply Kd.R_alloc | apply Kd.R_drewN | apply Kd.R_drew)); exact HO373.out) hb); have n3_ := Aside0.mk (Kd.R_below (by (with_reducible repeat (first | apply Kd.R_alloc | apply Kd.R_drewN | apply Kd.R_drew)); exact HO381.out) hb); have n4_ := Aside0.mk (blk_below (g := gb370) (o := .cells #[.slice Ao13 t364.length co13, .slice Ao15 t367.length co15] 25 (0, 0)) (by (with_reducible repeat (first | refine blk_drewN ?_ _ | refine blk_drew ?_ | refine blk_alloc ?_ _)); exact BK370.out) hb); have n5_ := Aside0.mk (below_step (by repeat (first | (with_reducible first | exact HB.out | apply below_alloc | apply pw_below_drewN | apply below_drew1 | refine below_set ?_ GE370.out) | exact HB.out)) hb); clear HO366; clear HO369; clear HO373; clear HO381; clear BK370; clear HB; have HO366 := n0_; have HO369 := n1_; have HO373 := n2_; have HO381 := n3_; have BK370 := n4_; have HB := n5_; clear n0_ n1_ n2_ n3_ n4_ n5_; (try clear hb); (try clear hb2); (try clear hk); (try clear hi); have hcz26_0 : w25.cell? ⟨gb370, 0, none⟩ = some (.slice Ao13 t364.length co13) := (blk_cell BK370.out 0).trans rfl; have hcz26_1 : w25.cell? ⟨gb370, 1, none⟩ = some (.slice Ao15 t367.length co15) := (blk_cell BK370.out 1).trans rfl; have hfz26_0 := blk_frozen BK370.out 0; have hfz26_1 := blk_frozen BK370.out 1) | ((with_reducible refine gate_callee (f := 44) rfl ?_); refine goesL_ (some 48) rfl rfl Tryd.func44 (by kernel_rfl) rfl #[.agg #[.slice Ao13 t364.length co13, .slice Ao15 t367.length co15], .int .u32 1, .int .u32 6] rfl (by (try simp only [List.map_toArray, List.map_cons, List.map_nil]); first | done | rfl | (simp only [List.length_drop, List.length_take]; rfl)) ?_; (with_reducible refine (feature_Text.calls _ _ t364 _ _ t367 1 6 t385 t386 _ ?side1 ?side2 ?side3 ?side4 A6.out).mono ?_); (case side1 => repeat (first | exact (Kd.R_reads' HO366.out).2.2 | (with_reducible refine Kd.C_alloc ?_ _) | (with_reducible refine Kd.C_drewN ?_ _) | (with_reducible refine Kd.C_drew ?_))); (case side2 => exact (Kd.R_reads' HO366.out).2.1); (case side3 => repeat (first | exact (Kd.R_reads' HO369.out).2.2 | (with_reducible refine Kd.C_alloc ?_ _) | (with_reducible refine Kd.C_drewN ?_ _) | (with_reducible refine Kd.C_drew ?_))); (case side4 => exact (Kd.R_reads' HO369.out).2.1); rintro e w27 ⟨rfl, hb⟩; refine ⟨_, rfl, ?_⟩; have n0_ := Aside0.mk (Kd.R_below (by (with_reducible repeat (first | apply Kd.R_alloc | apply Kd.R_drewN | apply Kd.R_drew)); exact HO366.out) hb); have n1_ := Aside0.mk (Kd.R_below (by (with_reducible repeat (first | apply Kd.R_alloc | apply Kd.R_drewN | apply Kd.R_drew)); exact HO369.out) hb); have n2_ := Aside0.mk (Kd.R_below (by (with_reducible repeat (first | apply Kd.R_alloc | apply Kd.R_drewN | apply Kd.R_drew)); exact HO373.out) hb); have n3_ := Aside0.mk (Kd.R_below (by (with_reducible repeat (first | apply Kd.R_alloc | apply Kd.R_drewN | apply Kd.R_drew)); exact HO381.out) hb); have n4_ := Aside0.mk (blk_below (g := gb370) (o := .cells #[.slice Ao13 t364.length co13, .slice Ao15 t367.length co15] 25 (0, 0)) (by (with_reducible repeat (first | refine blk_drewN ?_ _ | refine blk_drew ?_ | refine blk_alloc ?_ _)); exact BK370.out) hb); have n5_ := Aside0.mk (below_step (by repeat (first | (with_reducible first | exact HB.out | apply below_alloc | apply pw_below_drewN | apply below_drew1 | refine below_set ?_ GE370.out) | exact HB.out)) hb); clear HO366; clear HO369; clear HO373; clear HO381; clear BK370; clear HB; have HO366 := n0_; have HO369 := n1_; have HO373 := n2_; have HO381 := n3_; have BK370 := n4_; have HB := n5_; clear n0_ n1_ n2_ n3_ n4_ n5_; (try clear hb); (try clear hb2); (try clear hk); (try clear hi); have hcz28_0 : w27.cell? ⟨gb370, 0, none⟩ = some (.slice Ao13 t364.length co13) := (blk_cell BK370.out 0).trans rfl; have hcz28_1 : w27.cell? ⟨gb370, 1, none⟩ = some (.slice Ao15 t367.length co15) := (blk_cell BK370.out 1).trans rfl; have hfz28_0 := blk_frozen BK370.out 0; have hfz28_1 := blk_frozen BK370.out 1) | ((with_reducible refine gate_callee (f := 45) rfl ?_); refine goesL_ (some 53) rfl rfl Tryd.func45 (by kernel_rfl) rfl #[.agg #[.slice Ao13 t364.length co13, .slice Ao15 t367.length co15], .string (⟨#[45, 118, 111, 119, 101, 108, 43, 118, 111, 105, 99, 101, 100]⟩ : ByteArray)] rfl (by (try simp only [List.map_toArray, List.map_cons, List.map_nil]); first | done | rfl | (simp only [List.length_drop, List.length_take]; rfl)) ?_; (with_reducible refine (feature_Parse.calls _ _ t364 _ _ t367 (⟨#[45, 118, 111, 119, 101, 108, 43, 118, 111, 105, 99, 101, 100]⟩ : ByteArray) t387 t388 t389 t390 _ ?side1 ?side2 ?side3 ?side4 A7.out).mono ?_); (case side1 => repeat (first | exact (Kd.R_reads' HO366.out).2.2 | (with_reducible refine Kd.C_alloc ?_ _) | (with_reducible refine Kd.C_drewN ?_ _) | (with_reducible refine Kd.C_drew ?_))); (case side2 => exact (Kd.R_reads' HO366.out).2.1); (case side3 => repeat (first | exact (Kd.R_reads' HO369.out).2.2 | (with_reducible refine Kd.C_alloc ?_ _) | (with_reducible refine Kd.C_drewN ?_ _) | (with_reducible refine Kd.C_drew ?_))); (case side4 => exact (Kd.R_reads' HO369.out).2.1); rintro e w29 ⟨rfl, hb⟩; refine ⟨_, rfl, ?_⟩; have n0_ := Aside0.mk (Kd.R_below (by (with_reducible repeat (first | apply Kd.R_alloc | apply Kd.R_drewN | apply Kd.R_drew)); exact HO366.out) hb); have n1_ := Aside0.mk (Kd.R_below (by (with_reducible repeat (first | apply Kd.R_alloc | apply Kd.R_drewN | apply Kd.R_drew)); exact HO369.out) hb); have n2_ := Aside0.mk (Kd.R_below (by (with_reducible repeat (first | apply Kd.R_alloc | apply Kd.R_drewN | apply Kd.R_drew)); exact HO373.out) hb); have n3_ := Aside0.mk (Kd.R_below (by (with_reducible repeat (first | apply Kd.R_alloc | apply Kd.R_drewN | apply Kd.R_drew)); exact HO381.out) hb); have n4_ := Aside0.mk (blk_below (g := gb370) (o := .cells #[.slice Ao13 t364.length co13, .slice Ao15 t367.length co15] 25 (0, 0)) (by (with_reducible repeat (first | refine blk_drewN ?_ _ | refine blk_drew ?_ | refine blk_alloc ?_ _)); exact BK370.out) hb); have n5_ := Aside0.mk (below_step (by repeat (first | (with_reducible first | exact HB.out | apply below_alloc | apply pw_below_drewN | apply below_drew1 | refine below_set ?_ GE370.out) | exact HB.out)) hb); clear HO366; clear HO369; clear HO373; clear HO381; clear BK370; clear HB; have HO366 := n0_; have HO369 := n1_; have HO373 := n2_; have HO381 := n3_; have BK370 := n4_; have HB := n5_; clear n0_ n1_ n2_ n3_ n4_ n5_; (try clear hb); (try clear hb2); (try clear hk); (try clear hi); have hcz30_0 : w29.cell? ⟨gb370, 0, none⟩ = some (.slice Ao13 t364.length co13) := (blk_cell BK370.out 0).trans rfl; have hcz30_1 : w29.cell? ⟨gb370, 1, none⟩ = some (.slice Ao15 t367.length co15) := (blk_cell BK370.out 1).trans rfl; have hfz30_0 := blk_frozen BK370.out 0; have hfz30_1 := blk_frozen BK370.out 1) | ((with_reducible refine gate_callee (f := 45) rfl ?_); refine goesL_ (some 60) rfl rfl Tryd.func45 (by kernel_rfl) rfl #[.agg #[.slice Ao13 t364.length co13, .slice Ao15 t367.length co15], .string (⟨#[43, 118, 111, 105, 99, 101, 100, 45, 118, 111, 105, 99, 101, 100]⟩ : ByteArray)] rfl (by (try simp only [List.map_toArray, List.map_cons, List.map_nil]); first | done | rfl | (simp only [List.length_drop, List.length_take]; rfl)) ?_; (with_reducible refine (feature_Parse.calls _ _ t364 _ _ t367 (⟨#[43, 118, 111, 105, 99, 101, 100, 45, 118, 111, 105, 99, 101, 100]⟩ : ByteArray) t391 t392 t393 t394 _ ?side1 ?side2 ?side3 ?side4 A8.out).mono ?_); (case side1 => repeat (first | exact (Kd.R_reads' HO366.out).2.2 | (with_reducible refine Kd.C_alloc ?_ _) | (with_reducible refine Kd.C_drewN ?_ _) | (with_reducible refine Kd.C_drew ?_))); (case side2 => exact (Kd.R_reads' HO366.out).2.1); (case side3 => repeat (first | exact (Kd.R_reads' HO369.out).2.2 | (with_reducible refine Kd.C_alloc ?_ _) | (with_reducible refine Kd.C_drewN ?_ _) | (with_reducible refine Kd.C_drew ?_))); (case side4 => exact (Kd.R_reads' HO369.out).2.1); rintro e w31 ⟨rfl, hb⟩; refine ⟨_, rfl, ?_⟩; have n0_ := Aside0.mk (Kd.R_below (by (with_reducible repeat (first | apply Kd.R_alloc | apply Kd.R_drewN | apply Kd.R_drew)); exact HO366.out) hb); have n1_ := Aside0.mk (Kd.R_below (by (with_reducible repeat (first | apply Kd.R_alloc | apply Kd.R_drewN | apply Kd.R_drew)); exact HO369.out) hb); have n2_ := Aside0.mk (Kd.R_below (by (with_reducible repeat (first | apply Kd.R_alloc | apply Kd.R_drewN | apply Kd.R_drew)); exact HO373.out) hb); have n3_ := Aside0.mk (Kd.R_below (by (with_reducible repeat (first | apply Kd.R_alloc | apply Kd.R_drewN | apply Kd.R_drew)); exact HO381.out) hb); have n4_ := Aside0.mk (blk_below (g := gb370) (o := .cells #[.slice Ao13 t364.length co13, .slice Ao15 t367.length co15] 25 (0, 0)) (by (with_reducible repeat (first | refine blk_drewN ?_ _ | refine blk_drew ?_ | refine blk_alloc ?_ _)); exact BK370.out) hb); have n5_ := Aside0.mk (below_step (by repeat (first | (with_reducible first | exact HB.out | apply below_alloc | apply pw_below_drewN | apply below_drew1 | refine below_set ?_ GE370.out) | exact HB.out)) hb); clear HO366; clear HO369; clear HO373; clear HO381; clear BK370; clear HB; have HO366 := n0_; have HO369 := n1_; have HO373 := n2_; have HO381 := n3_; have BK370 := n4_; have HB := n5_; clear n0_ n1_ n2_ n3_ n4_ n5_; (try clear hb); (try clear hb2); (try clear hk); (try clear hi); have hcz32_0 : w31.cell? ⟨gb370, 0, none⟩ = some (.slice Ao13 t364.length co13) := (blk_cell BK370.out 0).trans rfl; have hcz32_1 : w31.cell? ⟨gb370, 1, none⟩ = some (.slice Ao15 t367.length co15) := (blk_cell BK370.out 1).trans rfl; have hfz32_0 := blk_frozen BK370.out 0; have hfz32_1 := blk_frozen BK370.out 1) | ((with_reducible refine gate_callee (f := 31) rfl ?_); refine goesL_ (some 67) rfl rfl Tryd.func31 (by kernel_rfl) rfl #[.agg #[.slice Ao13 t364.length co13, .slice Ao15 t367.length co15], .int .i32 98, .int .u32 1, .int .u32 2] rfl (by (try simp only [List.map_toArray, List.map_cons, List.map_nil]); first | done | rfl | (simp only [List.length_drop, List.length_take]; rfl)) ?_; (with_reducible refine (feature_Has.calls _ _ t364 _ _ t367 98 1 2 t395 t396 _ ?side1 ?side2 ?side3 ?side4 A9.out).mono ?_); (case side1 => repeat (first | exact (Kd.R_reads' HO366.out).2.2 | (with_reducible refine Kd.C_alloc ?_ _) | (with_reducible refine Kd.C_drewN ?_ _) | (with_reducible refine Kd.C_drew ?_))); (case side2 => exact (Kd.R_reads' HO366.out).2.1); (case side3 => repeat (first | exact (Kd.R_reads' HO369.out).2.2 | (with_reducible refine Kd.C_alloc ?_ _) | (with_reducible refine Kd.C_drewN ?_ _) | (with_reducible refine Kd.C_drew ?_))); (case side4 => exact (Kd.R_reads' HO369.out).2.1); rintro e w33 ⟨rfl, hb⟩; refine ⟨_, rfl, ?_⟩; have n0_ := Aside0.mk (Kd.R_below (by (with_reducible repeat (first | apply Kd.R_alloc | apply Kd.R_drewN | apply Kd.R_drew)); exact HO366.out) hb); have n1_ := Aside0.mk (Kd.R_below (by (with_reducible repeat (first | apply Kd.R_alloc | apply Kd.R_drewN | apply Kd.R_drew)); exact HO369.out) hb); have n2_ := Aside0.mk (Kd.R_below (by (with_reducible repeat (first | apply Kd.R_alloc | apply Kd.R_drewN | apply Kd.R_drew)); exact HO373.out) hb); have n3_ := Aside0.mk (Kd.R_below (by (with_reducible repeat (first | apply Kd.R_alloc | apply Kd.R_drewN | apply Kd.R_drew)); exact HO381.out) hb); have n4_ := Aside0.mk (blk_below (g := gb370) (o := .cells #[.slice Ao13 t364.length co13, .slice Ao15 t367.length co15] 25 (0, 0)) (by (with_reducible repeat (first | refine blk_drewN ?_ _ | refine blk_drew ?_ | refine blk_alloc ?_ _)); exact BK370.out) hb); have n5_ := Aside0.mk (below_step (by repeat (first | (with_reducible first | exact HB.out | apply below_alloc | apply pw_below_drewN | apply below_drew1 | refine below_set ?_ GE370.out) | exact HB.out)) hb); clear HO366; clear HO369; clear HO373; clear HO381; clear BK370; clear HB; have HO366 := n0_; have HO369 := n1_; have HO373 := n2_; have HO381 := n3_; have BK370 := n4_; have HB := n5_; clear n0_ n1_ n2_ n3_ n4_ n5_; (try clear hb); (try clear hb2); (try clear hk); (try clear hi)))
  (try simp only [Act.put, List.setIfInBounds_toArray, List.set_cons_zero, List.set_cons_succ])
  go_cut [104] (fun v104 wc => ∃ (kq : Nat) (x104_9 : Bool), v104 = .bool x104_9 ∧ Aside0 (cognatelaw02_alive.j0 kq t371 t375 t377 t382 t383 t385 t387 t388 t389 t393 t395 x104_9 t364 t367 = some r) ∧ Aside0 (kq ≤ k) ∧ Aside0 (Kd.R (Kd.int .i32) 21 wc w.heap.size (fun _ => True) v372 t371) ∧ Aside0 (Kd.R Kd.string 9 wc w.heap.size (fun _ => True) (.slice Ao13 t364.length co13) t364) ∧ Aside0 (Kd.R k53 53 wc w.heap.size (fun _ => True) (.slice Ao15 t367.length co15) t367) ∧ Aside0 (wc.heap[gb370]? = some (.cells #[(.slice Ao13 t364.length co13), (.slice Ao15 t367.length co15)] 25 (0, 0))) ∧ Aside0 (Below w.heap.size w wc))
  case first =>
    have H := HC10.out
    clear HC10
    by_cases c34 : t374 = 0
    · rw [if_pos c34] at H
      have c34b0 : (t374 == 0) = true := beq_iff_eq.mpr c34
      have c34b1 : (t374 != 0) = false := bne_eq_false_iff_eq.mpr c34
      clear c34
      (first | rw [c34b0] | (simp only [i64_w, i32_w]; rw [c34b0]) | skip)
      by_cases c35 : t376 = 0
      · rw [if_pos c35] at H
        have c35b0 : (t376 == 0) = true := beq_iff_eq.mpr c35
        have c35b1 : (t376 != 0) = false := bne_eq_false_iff_eq.mpr c35
        clear c35
        by_cases c36 : t378 = 0
        · rw [if_pos c36] at H
          have c36b0 : (t378 == 0) = true := beq_iff_eq.mpr c36
          have c36b1 : (t378 != 0) = false := bne_eq_false_iff_eq.mpr c36
          clear c36
          by_cases c37 : t384 = 0
          · rw [if_pos c37] at H
            have c37b0 : (t384 == 0) = true := beq_iff_eq.mpr c37
            have c37b1 : (t384 != 0) = false := bne_eq_false_iff_eq.mpr c37
            clear c37
            by_cases c38 : t386 = 0
            · rw [if_pos c38] at H
              have c38b0 : (t386 == 0) = true := beq_iff_eq.mpr c38
              have c38b1 : (t386 != 0) = false := bne_eq_false_iff_eq.mpr c38
              clear c38
              by_cases c39 : t390 = 0
              · rw [if_pos c39] at H
                have c39b0 : (t390 == 0) = true := beq_iff_eq.mpr c39
                have c39b1 : (t390 != 0) = false := bne_eq_false_iff_eq.mpr c39
                clear c39
                by_cases c40 : t394 = 20
                · rw [if_pos c40] at H
                  have c40b0 : (t394 == 20) = true := beq_iff_eq.mpr c40
                  have c40b1 : (t394 != 20) = false := bne_eq_false_iff_eq.mpr c40
                  clear c40
                  by_cases c41 : t396 = 0
                  · rw [if_pos c41] at H
                    have c41b0 : (t396 == 0) = true := beq_iff_eq.mpr c41
                    have c41b1 : (t396 != 0) = false := bne_eq_false_iff_eq.mpr c41
                    clear c41
                    have H' := Aside0.mk H
                    clear H
                    obtain ⟨Ao42, co42, eo42⟩ := Kd.R_slice HO373.out
                    subst eo42
                    go_wp2
                    go_meet
                    case rel => exact ⟨_, (((t371.length : Int) != 2)), (by first | rfl | (simp; done) | (simp [*]; done)), H', ⟨by first | omega | exact Nat.le_refl _⟩, ⟨by (with_reducible repeat (first | apply Kd.R_alloc | apply Kd.R_drewN | apply Kd.R_drew)); exact Kd.R_mono HO373.out (fun _ hk => trivial)⟩, ⟨by (with_reducible repeat (first | apply Kd.R_alloc | apply Kd.R_drewN | apply Kd.R_drew)); exact HO366.out⟩, ⟨by (with_reducible repeat (first | apply Kd.R_alloc | apply Kd.R_drewN | apply Kd.R_drew)); exact HO369.out⟩, ⟨by (with_reducible repeat (first | refine blk_drewN ?_ _ | refine blk_drew ?_ | refine blk_alloc ?_ _)); exact BK370.out⟩, ⟨by repeat (first | (with_reducible first | exact HB.out | apply below_alloc | apply pw_below_drewN | apply below_drew1 | refine below_set ?_ GE370.out) | exact HB.out)⟩⟩
                  · rw [if_neg c41] at H
                    have c41b0 : (t396 == 0) = false := beq_eq_false_iff_ne.mpr c41
                    have c41b1 : (t396 != 0) = true := bne_iff_ne.mpr c41
                    have H' := Aside0.mk H
                    clear H
                    go_wp2
                    go_meet
                    case rel => exact ⟨_, (true), (by first | rfl | (simp; done) | (simp [*]; done)), H', ⟨by first | omega | exact Nat.le_refl _⟩, ⟨by (with_reducible repeat (first | apply Kd.R_alloc | apply Kd.R_drewN | apply Kd.R_drew)); exact Kd.R_mono HO373.out (fun _ hk => trivial)⟩, ⟨by (with_reducible repeat (first | apply Kd.R_alloc | apply Kd.R_drewN | apply Kd.R_drew)); exact HO366.out⟩, ⟨by (with_reducible repeat (first | apply Kd.R_alloc | apply Kd.R_drewN | apply Kd.R_drew)); exact HO369.out⟩, ⟨by (with_reducible repeat (first | refine blk_drewN ?_ _ | refine blk_drew ?_ | refine blk_alloc ?_ _)); exact BK370.out⟩, ⟨by repeat (first | (with_reducible first | exact HB.out | apply below_alloc | apply pw_below_drewN | apply below_drew1 | refine below_set ?_ GE370.out) | exact HB.out)⟩⟩
                · rw [if_neg c40] at H
                  have c40b0 : (t394 == 20) = false := beq_eq_false_iff_ne.mpr c40
                  have c40b1 : (t394 != 20) = true := bne_iff_ne.mpr c40
                  have H' := Aside0.mk H
                  clear H
                  go_wp2
                  go_meet
                  case rel => exact ⟨_, (true), (by first | rfl | (simp; done) | (simp [*]; done)), H', ⟨by first | omega | exact Nat.le_refl _⟩, ⟨by (with_reducible repeat (first | apply Kd.R_alloc | apply Kd.R_drewN | apply Kd.R_drew)); exact Kd.R_mono HO373.out (fun _ hk => trivial)⟩, ⟨by (with_reducible repeat (first | apply Kd.R_alloc | apply Kd.R_drewN | apply Kd.R_drew)); exact HO366.out⟩, ⟨by (with_reducible repeat (first | apply Kd.R_alloc | apply Kd.R_drewN | apply Kd.R_drew)); exact HO369.out⟩, ⟨by (with_reducible repeat (first | refine blk_drewN ?_ _ | refine blk_drew ?_ | refine blk_alloc ?_ _)); exact BK370.out⟩, ⟨by repeat (first | (with_reducible first | exact HB.out | apply below_alloc | apply pw_below_drewN | apply below_drew1 | refine below_set ?_ GE370.out) | exact HB.out)⟩⟩
              · rw [if_neg c39] at H
                have c39b0 : (t390 == 0) = false := beq_eq_false_iff_ne.mpr c39
                have c39b1 : (t390 != 0) = true := bne_iff_ne.mpr c39
                have H' := Aside0.mk H
                clear H
                go_wp2
                go_meet
                case rel => exact ⟨_, (true), (by first | rfl | (simp; done) | (simp [*]; done)), H', ⟨by first | omega | exact Nat.le_refl _⟩, ⟨by (with_reducible repeat (first | apply Kd.R_alloc | apply Kd.R_drewN | apply Kd.R_drew)); exact Kd.R_mono HO373.out (fun _ hk => trivial)⟩, ⟨by (with_reducible repeat (first | apply Kd.R_alloc | apply Kd.R_drewN | apply Kd.R_drew)); exact HO366.out⟩, ⟨by (with_reducible repeat (first | apply Kd.R_alloc | apply Kd.R_drewN | apply Kd.R_drew)); exact HO369.out⟩, ⟨by (with_reducible repeat (first | refine blk_drewN ?_ _ | refine blk_drew ?_ | refine blk_alloc ?_ _)); exact BK370.out⟩, ⟨by repeat (first | (with_reducible first | exact HB.out | apply below_alloc | apply pw_below_drewN | apply below_drew1 | refine below_set ?_ GE370.out) | exact HB.out)⟩⟩
            · rw [if_neg c38] at H
              have c38b0 : (t386 == 0) = false := beq_eq_false_iff_ne.mpr c38
              have c38b1 : (t386 != 0) = true := bne_iff_ne.mpr c38
              have H' := Aside0.mk H
              clear H
              go_wp2
              go_meet
              case rel => exact ⟨_, (true), (by first | rfl | (simp; done) | (simp [*]; done)), H', ⟨by first | omega | exact Nat.le_refl _⟩, ⟨by (with_reducible repeat (first | apply Kd.R_alloc | apply Kd.R_drewN | apply Kd.R_drew)); exact Kd.R_mono HO373.out (fun _ hk => trivial)⟩, ⟨by (with_reducible repeat (first | apply Kd.R_alloc | apply Kd.R_drewN | apply Kd.R_drew)); exact HO366.out⟩, ⟨by (with_reducible repeat (first | apply Kd.R_alloc | apply Kd.R_drewN | apply Kd.R_drew)); exact HO369.out⟩, ⟨by (with_reducible repeat (first | refine blk_drewN ?_ _ | refine blk_drew ?_ | refine blk_alloc ?_ _)); exact BK370.out⟩, ⟨by repeat (first | (with_reducible first | exact HB.out | apply below_alloc | apply pw_below_drewN | apply below_drew1 | refine below_set ?_ GE370.out) | exact HB.out)⟩⟩
          · rw [if_neg c37] at H
            have c37b0 : (t384 == 0) = false := beq_eq_false_iff_ne.mpr c37
            have c37b1 : (t384 != 0) = true := bne_iff_ne.mpr c37
            have H' := Aside0.mk H
            clear H
            go_wp2
            go_meet
            case rel => exact ⟨_, (true), (by first | rfl | (simp; done) | (simp [*]; done)), H', ⟨by first | omega | exact Nat.le_refl _⟩, ⟨by (with_reducible repeat (first | apply Kd.R_alloc | apply Kd.R_drewN | apply Kd.R_drew)); exact Kd.R_mono HO373.out (fun _ hk => trivial)⟩, ⟨by (with_reducible repeat (first | apply Kd.R_alloc | apply Kd.R_drewN | apply Kd.R_drew)); exact HO366.out⟩, ⟨by (with_reducible repeat (first | apply Kd.R_alloc | apply Kd.R_drewN | apply Kd.R_drew)); exact HO369.out⟩, ⟨by (with_reducible repeat (first | refine blk_drewN ?_ _ | refine blk_drew ?_ | refine blk_alloc ?_ _)); exact BK370.out⟩, ⟨by repeat (first | (with_reducible first | exact HB.out | apply below_alloc | apply pw_below_drewN | apply below_drew1 | refine below_set ?_ GE370.out) | exact HB.out)⟩⟩
        · rw [if_neg c36] at H
          have c36b0 : (t378 == 0) = false := beq_eq_false_iff_ne.mpr c36
          have c36b1 : (t378 != 0) = true := bne_iff_ne.mpr c36
          have H' := Aside0.mk H
          clear H
          go_wp2
          go_meet
          case rel => exact ⟨_, (true), (by first | rfl | (simp; done) | (simp [*]; done)), H', ⟨by first | omega | exact Nat.le_refl _⟩, ⟨by (with_reducible repeat (first | apply Kd.R_alloc | apply Kd.R_drewN | apply Kd.R_drew)); exact Kd.R_mono HO373.out (fun _ hk => trivial)⟩, ⟨by (with_reducible repeat (first | apply Kd.R_alloc | apply Kd.R_drewN | apply Kd.R_drew)); exact HO366.out⟩, ⟨by (with_reducible repeat (first | apply Kd.R_alloc | apply Kd.R_drewN | apply Kd.R_drew)); exact HO369.out⟩, ⟨by (with_reducible repeat (first | refine blk_drewN ?_ _ | refine blk_drew ?_ | refine blk_alloc ?_ _)); exact BK370.out⟩, ⟨by repeat (first | (with_reducible first | exact HB.out | apply below_alloc | apply pw_below_drewN | apply below_drew1 | refine below_set ?_ GE370.out) | exact HB.out)⟩⟩
      · rw [if_neg c35] at H
        have c35b0 : (t376 == 0) = false := beq_eq_false_iff_ne.mpr c35
        have c35b1 : (t376 != 0) = true := bne_iff_ne.mpr c35
        have H' := Aside0.mk H
        clear H
        go_wp2
        go_meet
        case rel => exact ⟨_, (true), (by first | rfl | (simp; done) | (simp [*]; done)), H', ⟨by first | omega | exact Nat.le_refl _⟩, ⟨by (with_reducible repeat (first | apply Kd.R_alloc | apply Kd.R_drewN | apply Kd.R_drew)); exact Kd.R_mono HO373.out (fun _ hk => trivial)⟩, ⟨by (with_reducible repeat (first | apply Kd.R_alloc | apply Kd.R_drewN | apply Kd.R_drew)); exact HO366.out⟩, ⟨by (with_reducible repeat (first | apply Kd.R_alloc | apply Kd.R_drewN | apply Kd.R_drew)); exact HO369.out⟩, ⟨by (with_reducible repeat (first | refine blk_drewN ?_ _ | refine blk_drew ?_ | refine blk_alloc ?_ _)); exact BK370.out⟩, ⟨by repeat (first | (with_reducible first | exact HB.out | apply below_alloc | apply pw_below_drewN | apply below_drew1 | refine below_set ?_ GE370.out) | exact HB.out)⟩⟩
    · rw [if_neg c34] at H
      have c34b0 : (t374 == 0) = false := beq_eq_false_iff_ne.mpr c34
      have c34b1 : (t374 != 0) = true := bne_iff_ne.mpr c34
      (first | rw [c34b0] | (simp only [i64_w, i32_w]; rw [c34b0]) | skip)
      have H' := Aside0.mk H
      clear H
      go_wp2
      go_meet
      case rel => exact ⟨_, (true), (by first | rfl | (simp; done) | (simp [*]; done)), H', ⟨by first | omega | exact Nat.le_refl _⟩, ⟨by (with_reducible repeat (first | apply Kd.R_alloc | apply Kd.R_drewN | apply Kd.R_drew)); exact Kd.R_mono HO373.out (fun _ hk => trivial)⟩, ⟨by (with_reducible repeat (first | apply Kd.R_alloc | apply Kd.R_drewN | apply Kd.R_drew)); exact HO366.out⟩, ⟨by (with_reducible repeat (first | apply Kd.R_alloc | apply Kd.R_drewN | apply Kd.R_drew)); exact HO369.out⟩, ⟨by (with_reducible repeat (first | refine blk_drewN ?_ _ | refine blk_drew ?_ | refine blk_alloc ?_ _)); exact BK370.out⟩, ⟨by repeat (first | (with_reducible first | exact HB.out | apply below_alloc | apply pw_below_drewN | apply below_drew1 | refine below_set ?_ GE370.out) | exact HB.out)⟩⟩
  case rest =>
    clear HC10
    try clear c2
    try clear p2
    try clear c3
    try clear c4
    try clear c6
    try clear c25
    try clear c28
    try clear c31
    try clear c32
    try clear c33
    try clear c34
    try clear c34b0
    try clear c34b1
    try clear c35
    try clear c35b0
    try clear c35b1
    try clear c36
    try clear c36b0
    try clear c36b1
    try clear c37
    try clear c37b0
    try clear c37b1
    try clear c38
    try clear c38b0
    try clear c38b1
    try clear c39
    try clear c39b0
    try clear c39b1
    try clear c40
    try clear c40b0
    try clear c40b1
    try clear c41
    try clear c41b0
    try clear c41b1
    try clear hcz14_0
    try clear hcz14_1
    try clear hcz17_0
    try clear hcz17_1
    try clear hcz19_0
    try clear hcz19_1
    try clear hcz21_0
    try clear hcz21_1
    try clear hcz26_0
    try clear hcz26_1
    try clear hcz28_0
    try clear hcz28_1
    try clear hcz30_0
    try clear hcz30_1
    try clear hcz32_0
    try clear hcz32_1
    try clear hfz14_0
    try clear hfz14_1
    try clear hfz17_0
    try clear hfz17_1
    try clear hfz19_0
    try clear hfz19_1
    try clear hfz21_0
    try clear hfz21_1
    try clear hfz26_0
    try clear hfz26_1
    try clear hfz28_0
    try clear hfz28_1
    try clear hfz30_0
    try clear hfz30_1
    try clear hfz32_0
    try clear hfz32_1
    obtain ⟨kq, x104_9, rfl, HA, HJ9, HO_2, HO_371000, HO_371001, BK370, HB⟩ := hcut
    cases kq with
    | zero => exact absurd HA.out (by simp [cognatelaw02_alive.j0])
    | succ kj9 =>
      have H := HA.out
      clear HA
      simp only [cognatelaw02_alive.j0] at H
      by_cases c43 : x104_9 = true
      · subst c43
        have H1 : (some false) = some r := by rw [if_pos rfl] at H; exact H
        clear H
        have H := H1
        clear H1
        obtain rfl := Option.some.inj H
        go_wp2
        go_ret
        exact ⟨by first | rfl | (simp [errW_none, errW_some] <;> rfl) | (simp [*, errW_none, errW_some] <;> rfl), by repeat (first | (with_reducible first | exact HB.out | apply below_alloc | apply pw_below_drewN | apply below_drew1 | refine below_set ?_ GE370.out) | exact HB.out)⟩
      · replace c43 := Bool.eq_false_iff.mpr c43
        subst c43
        have H1 : (if 0 < (t371.length : Int) then (if (rd t371 0) = 98 then (if 1 < (t371.length : Int) then (if (rd t371 1) = 109 then (if t375 = 112 then (if t377 = 3 then (if t382 = 1 then (if t383 = 4 then (if t385.toList = ([43, 118, 111, 105, 99, 101, 100, 45, 110, 97, 115, 97, 108, 45, 118, 111, 119, 101, 108] : List UInt8) then (if t387 = 1 then (if t388 = 4 then (if t389 = 0 then (if t393 = 7 then (if t395 = true then ((feature_Check.f t364 t367).bind fun t399 => (if t399 = 0 then ((feature_Check.f ([] : List ByteArray) ([] : List (S53))).bind fun t400 => (some (t400 == 7))) else (some false))) else (some false)) else (some false)) else (some false)) else (some false)) else (some false)) else (some false)) else (some false)) else (some false)) else (some false)) else (some false)) else (some false)) else (none)) else (some false)) else (none)) = some r := by rw [if_neg (show ¬ (false = true) by decide)] at H; exact H
        clear H
        have H := H1
        clear H1
        by_cases c44 : 0 < (t371.length : Int)
        · rw [if_pos c44] at H
          have c44b0 : decide (0 < (t371.length : Int)) = true := decide_eq_true c44
          have c44b1 : decide (0 < t371.length) = true := decide_eq_true (by omega)
          clear c44
          by_cases c45 : (rd t371 0) = 98
          · rw [if_pos c45] at H
            have c45b0 : ((rd t371 0) == 98) = true := beq_iff_eq.mpr c45
            have c45b1 : ((rd t371 0) != 98) = false := bne_eq_false_iff_eq.mpr c45
            clear c45
            by_cases c46 : 1 < (t371.length : Int)
            · rw [if_pos c46] at H
              have c46b0 : decide (1 < (t371.length : Int)) = true := decide_eq_true c46
              have c46b1 : decide (1 < t371.length) = true := decide_eq_true (by omega)
              clear c46
              by_cases c47 : (rd t371 1) = 109
              · rw [if_pos c47] at H
                have c47b0 : ((rd t371 1) == 109) = true := beq_iff_eq.mpr c47
                have c47b1 : ((rd t371 1) != 109) = false := bne_eq_false_iff_eq.mpr c47
                clear c47
                by_cases c48 : t375 = 112
                · rw [if_pos c48] at H
                  have c48b0 : (t375 == 112) = true := beq_iff_eq.mpr c48
                  have c48b1 : (t375 != 112) = false := bne_eq_false_iff_eq.mpr c48
                  clear c48
                  by_cases c49 : t377 = 3
                  · rw [if_pos c49] at H
                    have c49b0 : (t377 == 3) = true := beq_iff_eq.mpr c49
                    have c49b1 : (t377 != 3) = false := bne_eq_false_iff_eq.mpr c49
                    clear c49
                    by_cases c50 : t382 = 1
                    · rw [if_pos c50] at H
                      have c50b0 : (t382 == 1) = true := beq_iff_eq.mpr c50
                      have c50b1 : (t382 != 1) = false := bne_eq_false_iff_eq.mpr c50
                      clear c50
                      by_cases c51 : t383 = 4
                      · rw [if_pos c51] at H
                        have c51b0 : (t383 == 4) = true := beq_iff_eq.mpr c51
                        have c51b1 : (t383 != 4) = false := bne_eq_false_iff_eq.mpr c51
                        clear c51
                        by_cases c52 : t385.toList = ([43, 118, 111, 105, 99, 101, 100, 45, 110, 97, 115, 97, 108, 45, 118, 111, 119, 101, 108] : List UInt8)
                        · rw [if_pos c52] at H
                          have c52b0 : (t385.toList == ([43, 118, 111, 105, 99, 101, 100, 45, 110, 97, 115, 97, 108, 45, 118, 111, 119, 101, 108] : List UInt8)) = true := beq_iff_eq.mpr c52
                          have c52b1 : (t385.toList != ([43, 118, 111, 105, 99, 101, 100, 45, 110, 97, 115, 97, 108, 45, 118, 111, 119, 101, 108] : List UInt8)) = false := bne_eq_false_iff_eq.mpr c52
                          clear c52
                          by_cases c53 : t387 = 1
                          · rw [if_pos c53] at H
                            have c53b0 : (t387 == 1) = true := beq_iff_eq.mpr c53
                            have c53b1 : (t387 != 1) = false := bne_eq_false_iff_eq.mpr c53
                            clear c53
                            by_cases c54 : t388 = 4
                            · rw [if_pos c54] at H
                              have c54b0 : (t388 == 4) = true := beq_iff_eq.mpr c54
                              have c54b1 : (t388 != 4) = false := bne_eq_false_iff_eq.mpr c54
                              clear c54
                              by_cases c55 : t389 = 0
                              · rw [if_pos c55] at H
                                have c55b0 : (t389 == 0) = true := beq_iff_eq.mpr c55
                                have c55b1 : (t389 != 0) = false := bne_eq_false_iff_eq.mpr c55
                                clear c55
                                by_cases c56 : t393 = 7
                                · rw [if_pos c56] at H
                                  have c56b0 : (t393 == 7) = true := beq_iff_eq.mpr c56
                                  have c56b1 : (t393 != 7) = false := bne_eq_false_iff_eq.mpr c56
                                  clear c56
                                  by_cases c57 : t395 = true
                                  · subst c57
                                    have H1 : ((feature_Check.f t364 t367).bind fun t399 => (if t399 = 0 then ((feature_Check.f ([] : List ByteArray) ([] : List (S53))).bind fun t400 => (some (t400 == 7))) else (some false))) = some r := by rw [if_pos rfl] at H; exact H
                                    clear H
                                    have H := H1
                                    clear H1
                                    replace H := Option.bind_eq_some_iff.mp H
                                    obtain ⟨t399, A580, H⟩ := H
                                    replace H : (if t399 = 0 then ((feature_Check.f ([] : List ByteArray) ([] : List (S53))).bind fun t400 => (some (t400 == 7))) else (some false)) = some r := H
                                    have A58 := Aside0.mk A580
                                    clear A580
                                    by_cases c59 : t399 = 0
                                    · rw [if_pos c59] at H
                                      have c59b0 : (t399 == 0) = true := beq_iff_eq.mpr c59
                                      have c59b1 : (t399 != 0) = false := bne_eq_false_iff_eq.mpr c59
                                      clear c59
                                      replace H := Option.bind_eq_some_iff.mp H
                                      obtain ⟨t400, A600, H⟩ := H
                                      replace H : (some (t400 == 7)) = some r := H
                                      have A60 := Aside0.mk A600
                                      clear A600
                                      obtain rfl := Option.some.inj H
                                      obtain ⟨Ao61, co61, eo61⟩ := Kd.R_slice HO_2.out
                                      subst eo61
                                      have p397 : 0 ≤ (0 : Int) := (by omega)
                                      have q397 : 0 < (t371.length : Int) := of_decide_eq_true (by first | (with_reducible assumption) | assumption)
                                      obtain ⟨ad397, e397, hx397_0⟩ := Kd.at_int (Kd.R_reads' HO_2.out).2.2 0 p397 q397
                                      cases e397
                                      have qi397 : (0 < t371.length) = True := eq_true (by omega)
                                      (try rw [show ((0 : Int)).toNat = 0 from rfl] at hx397_0)
                                      (try rw [Addr.add_zero'] at hx397_0)
                                      replace p397 := eq_true p397
                                      replace q397 := eq_true q397
                                      have p398 : 0 ≤ (1 : Int) := (by omega)
                                      have q398 : 1 < (t371.length : Int) := of_decide_eq_true (by first | (with_reducible assumption) | assumption)
                                      obtain ⟨ad398, e398, hx398_0⟩ := Kd.at_int (Kd.R_reads' HO_2.out).2.2 1 p398 q398
                                      obtain rfl : ad397 = ad398 := (by injection e398)
                                      (try simp only [show (1 : Int).toNat = 1 from rfl, Nat.reduceMul, Nat.reduceEqDiff, Go.Addr.add, ↓reduceIte] at hx398_0)
                                      have qi398 : (1 < t371.length) = True := eq_true (by omega)
                                      (try rw [show ((1 : Int)).toNat = 1 from rfl] at hx398_0)
                                      replace p398 := eq_true p398
                                      replace q398 := eq_true q398
                                      have hcz62_0 : wc.cell? ⟨gb370, 0, none⟩ = some (.slice Ao13 t364.length co13) := (blk_cell BK370.out 0).trans rfl
                                      have hcz62_1 : wc.cell? ⟨gb370, 1, none⟩ = some (.slice Ao15 t367.length co15) := (blk_cell BK370.out 1).trans rfl
                                      have hfz62_0 := blk_frozen BK370.out 0
                                      have hfz62_1 := blk_frozen BK370.out 1
                                      go_wp2_with (first | (go_at_call 27; (with_reducible refine (feature_Check.calls _ _ t364 _ _ t367 t399 _ ?side1 ?side2 ?side3 ?side4 A58.out).mono ?_); (case side1 => repeat (first | exact (Kd.R_reads' HO_371000.out).2.2 | (with_reducible refine Kd.C_alloc ?_ _) | (with_reducible refine Kd.C_drewN ?_ _) | (with_reducible refine Kd.C_drew ?_))); (case side2 => exact (Kd.R_reads' HO_371000.out).2.1); (case side3 => repeat (first | exact (Kd.R_reads' HO_371001.out).2.2 | (with_reducible refine Kd.C_alloc ?_ _) | (with_reducible refine Kd.C_drewN ?_ _) | (with_reducible refine Kd.C_drew ?_))); (case side4 => exact (Kd.R_reads' HO_371001.out).2.1); rintro e w63 ⟨rfl, hb⟩; have n0_ := Aside0.mk (Kd.R_below (by (with_reducible repeat (first | apply Kd.R_alloc | apply Kd.R_drewN | apply Kd.R_drew)); exact HO_2.out) hb); have n1_ := Aside0.mk (Kd.R_below (by (with_reducible repeat (first | apply Kd.R_alloc | apply Kd.R_drewN | apply Kd.R_drew)); exact HO_371000.out) hb); have n2_ := Aside0.mk (Kd.R_below (by (with_reducible repeat (first | apply Kd.R_alloc | apply Kd.R_drewN | apply Kd.R_drew)); exact HO_371001.out) hb); have n3_ := Aside0.mk (blk_below (g := gb370) (o := .cells #[.slice Ao13 t364.length co13, .slice Ao15 t367.length co15] 25 (0, 0)) (by (with_reducible repeat (first | refine blk_drewN ?_ _ | refine blk_drew ?_ | refine blk_alloc ?_ _)); exact BK370.out) hb); have n4_ := Aside0.mk (below_step (by repeat (first | (with_reducible first | exact HB.out | apply below_alloc | apply pw_below_drewN | apply below_drew1 | refine below_set ?_ GE370.out) | exact HB.out)) hb); clear HO_2; clear HO_371000; clear HO_371001; clear BK370; clear HB; have HO_2 := n0_; have HO_371000 := n1_; have HO_371001 := n2_; have BK370 := n3_; have HB := n4_; clear n0_ n1_ n2_ n3_ n4_; (try clear hb); (try clear hb2); (try clear hk); (try clear hi)) | (go_at_call 27; (refine (feature_Check.calls _ _ ([] : List ByteArray) _ _ ([] : List (S53)) t400 _ ?side1 ?side2 ?side3 ?side4 A60.out).mono ?_); (case side1 => exact Kd.C_nil _ _); (case side2 => exact Nat.le_refl _); (case side3 => exact Kd.C_nil _ _); (case side4 => exact Nat.le_refl _); rintro e w64 ⟨rfl, hb⟩; have n0_ := Aside0.mk (Kd.R_below (by (with_reducible repeat (first | apply Kd.R_alloc | apply Kd.R_drewN | apply Kd.R_drew)); exact HO_2.out) hb); have n1_ := Aside0.mk (Kd.R_below (by (with_reducible repeat (first | apply Kd.R_alloc | apply Kd.R_drewN | apply Kd.R_drew)); exact HO_371000.out) hb); have n2_ := Aside0.mk (Kd.R_below (by (with_reducible repeat (first | apply Kd.R_alloc | apply Kd.R_drewN | apply Kd.R_drew)); exact HO_371001.out) hb); have n3_ := Aside0.mk (blk_below (g := gb370) (o := .cells #[.slice Ao13 t364.length co13, .slice Ao15 t367.length co15] 25 (0, 0)) (by (with_reducible repeat (first | refine blk_drewN ?_ _ | refine blk_drew ?_ | refine blk_alloc ?_ _)); exact BK370.out) hb); have n4_ := Aside0.mk (below_step (by repeat (first | (with_reducible first | exact HB.out | apply below_alloc | apply pw_below_drewN | apply below_drew1 | refine below_set ?_ GE370.out) | exact HB.out)) hb); clear HO_2; clear HO_371000; clear HO_371001; clear BK370; clear HB; have HO_2 := n0_; have HO_371000 := n1_; have HO_371001 := n2_; have BK370 := n3_; have HB := n4_; clear n0_ n1_ n2_ n3_ n4_; (try clear hb); (try clear hb2); (try clear hk); (try clear hi)))
                                      go_ret
                                      exact ⟨by first | rfl | (simp [errW_none, errW_some] <;> rfl) | (simp [*, errW_none, errW_some] <;> rfl), by repeat (first | (with_reducible first | exact HB.out | apply below_alloc | apply pw_below_drewN | apply below_drew1 | refine below_set ?_ GE370.out) | exact HB.out)⟩
                                    · rw [if_neg c59] at H
                                      have c59b0 : (t399 == 0) = false := beq_eq_false_iff_ne.mpr c59
                                      have c59b1 : (t399 != 0) = true := bne_iff_ne.mpr c59
                                      obtain rfl := Option.some.inj H
                                      obtain ⟨Ao65, co65, eo65⟩ := Kd.R_slice HO_2.out
                                      subst eo65
                                      have p397 : 0 ≤ (0 : Int) := (by omega)
                                      have q397 : 0 < (t371.length : Int) := of_decide_eq_true (by first | (with_reducible assumption) | assumption)
                                      obtain ⟨ad397, e397, hx397_0⟩ := Kd.at_int (Kd.R_reads' HO_2.out).2.2 0 p397 q397
                                      cases e397
                                      have qi397 : (0 < t371.length) = True := eq_true (by omega)
                                      (try rw [show ((0 : Int)).toNat = 0 from rfl] at hx397_0)
                                      (try rw [Addr.add_zero'] at hx397_0)
                                      replace p397 := eq_true p397
                                      replace q397 := eq_true q397
                                      have p398 : 0 ≤ (1 : Int) := (by omega)
                                      have q398 : 1 < (t371.length : Int) := of_decide_eq_true (by first | (with_reducible assumption) | assumption)
                                      obtain ⟨ad398, e398, hx398_0⟩ := Kd.at_int (Kd.R_reads' HO_2.out).2.2 1 p398 q398
                                      obtain rfl : ad397 = ad398 := (by injection e398)
                                      (try simp only [show (1 : Int).toNat = 1 from rfl, Nat.reduceMul, Nat.reduceEqDiff, Go.Addr.add, ↓reduceIte] at hx398_0)
                                      have qi398 : (1 < t371.length) = True := eq_true (by omega)
                                      (try rw [show ((1 : Int)).toNat = 1 from rfl] at hx398_0)
                                      replace p398 := eq_true p398
                                      replace q398 := eq_true q398
                                      have hcz66_0 : wc.cell? ⟨gb370, 0, none⟩ = some (.slice Ao13 t364.length co13) := (blk_cell BK370.out 0).trans rfl
                                      have hcz66_1 : wc.cell? ⟨gb370, 1, none⟩ = some (.slice Ao15 t367.length co15) := (blk_cell BK370.out 1).trans rfl
                                      have hfz66_0 := blk_frozen BK370.out 0
                                      have hfz66_1 := blk_frozen BK370.out 1
                                      go_wp2_with (first | (go_at_call 27; (with_reducible refine (feature_Check.calls _ _ t364 _ _ t367 t399 _ ?side1 ?side2 ?side3 ?side4 A58.out).mono ?_); (case side1 => repeat (first | exact (Kd.R_reads' HO_371000.out).2.2 | (with_reducible refine Kd.C_alloc ?_ _) | (with_reducible refine Kd.C_drewN ?_ _) | (with_reducible refine Kd.C_drew ?_))); (case side2 => exact (Kd.R_reads' HO_371000.out).2.1); (case side3 => repeat (first | exact (Kd.R_reads' HO_371001.out).2.2 | (with_reducible refine Kd.C_alloc ?_ _) | (with_reducible refine Kd.C_drewN ?_ _) | (with_reducible refine Kd.C_drew ?_))); (case side4 => exact (Kd.R_reads' HO_371001.out).2.1); rintro e w67 ⟨rfl, hb⟩; have n0_ := Aside0.mk (Kd.R_below (by (with_reducible repeat (first | apply Kd.R_alloc | apply Kd.R_drewN | apply Kd.R_drew)); exact HO_2.out) hb); have n1_ := Aside0.mk (Kd.R_below (by (with_reducible repeat (first | apply Kd.R_alloc | apply Kd.R_drewN | apply Kd.R_drew)); exact HO_371000.out) hb); have n2_ := Aside0.mk (Kd.R_below (by (with_reducible repeat (first | apply Kd.R_alloc | apply Kd.R_drewN | apply Kd.R_drew)); exact HO_371001.out) hb); have n3_ := Aside0.mk (blk_below (g := gb370) (o := .cells #[.slice Ao13 t364.length co13, .slice Ao15 t367.length co15] 25 (0, 0)) (by (with_reducible repeat (first | refine blk_drewN ?_ _ | refine blk_drew ?_ | refine blk_alloc ?_ _)); exact BK370.out) hb); have n4_ := Aside0.mk (below_step (by repeat (first | (with_reducible first | exact HB.out | apply below_alloc | apply pw_below_drewN | apply below_drew1 | refine below_set ?_ GE370.out) | exact HB.out)) hb); clear HO_2; clear HO_371000; clear HO_371001; clear BK370; clear HB; have HO_2 := n0_; have HO_371000 := n1_; have HO_371001 := n2_; have BK370 := n3_; have HB := n4_; clear n0_ n1_ n2_ n3_ n4_; (try clear hb); (try clear hb2); (try clear hk); (try clear hi)))
                                      go_ret
                                      exact ⟨by first | rfl | (simp [errW_none, errW_some] <;> rfl) | (simp [*, errW_none, errW_some] <;> rfl), by repeat (first | (with_reducible first | exact HB.out | apply below_alloc | apply pw_below_drewN | apply below_drew1 | refine below_set ?_ GE370.out) | exact HB.out)⟩
                                  · replace c57 := Bool.eq_false_iff.mpr c57
                                    subst c57
                                    have H1 : (some false) = some r := by rw [if_neg (show ¬ (false = true) by decide)] at H; exact H
                                    clear H
                                    have H := H1
                                    clear H1
                                    obtain rfl := Option.some.inj H
                                    obtain ⟨Ao68, co68, eo68⟩ := Kd.R_slice HO_2.out
                                    subst eo68
                                    have p397 : 0 ≤ (0 : Int) := (by omega)
                                    have q397 : 0 < (t371.length : Int) := of_decide_eq_true (by first | (with_reducible assumption) | assumption)
                                    obtain ⟨ad397, e397, hx397_0⟩ := Kd.at_int (Kd.R_reads' HO_2.out).2.2 0 p397 q397
                                    cases e397
                                    have qi397 : (0 < t371.length) = True := eq_true (by omega)
                                    (try rw [show ((0 : Int)).toNat = 0 from rfl] at hx397_0)
                                    (try rw [Addr.add_zero'] at hx397_0)
                                    replace p397 := eq_true p397
                                    replace q397 := eq_true q397
                                    have p398 : 0 ≤ (1 : Int) := (by omega)
                                    have q398 : 1 < (t371.length : Int) := of_decide_eq_true (by first | (with_reducible assumption) | assumption)
                                    obtain ⟨ad398, e398, hx398_0⟩ := Kd.at_int (Kd.R_reads' HO_2.out).2.2 1 p398 q398
                                    obtain rfl : ad397 = ad398 := (by injection e398)
                                    (try simp only [show (1 : Int).toNat = 1 from rfl, Nat.reduceMul, Nat.reduceEqDiff, Go.Addr.add, ↓reduceIte] at hx398_0)
                                    have qi398 : (1 < t371.length) = True := eq_true (by omega)
                                    (try rw [show ((1 : Int)).toNat = 1 from rfl] at hx398_0)
                                    replace p398 := eq_true p398
                                    replace q398 := eq_true q398
                                    go_wp2
                                    go_ret
                                    exact ⟨by first | rfl | (simp [errW_none, errW_some] <;> rfl) | (simp [*, errW_none, errW_some] <;> rfl), by repeat (first | (with_reducible first | exact HB.out | apply below_alloc | apply pw_below_drewN | apply below_drew1 | refine below_set ?_ GE370.out) | exact HB.out)⟩
                                · rw [if_neg c56] at H
                                  have c56b0 : (t393 == 7) = false := beq_eq_false_iff_ne.mpr c56
                                  have c56b1 : (t393 != 7) = true := bne_iff_ne.mpr c56
                                  obtain rfl := Option.some.inj H
                                  obtain ⟨Ao69, co69, eo69⟩ := Kd.R_slice HO_2.out
                                  subst eo69
                                  have p397 : 0 ≤ (0 : Int) := (by omega)
                                  have q397 : 0 < (t371.length : Int) := of_decide_eq_true (by first | (with_reducible assumption) | assumption)
                                  obtain ⟨ad397, e397, hx397_0⟩ := Kd.at_int (Kd.R_reads' HO_2.out).2.2 0 p397 q397
                                  cases e397
                                  have qi397 : (0 < t371.length) = True := eq_true (by omega)
                                  (try rw [show ((0 : Int)).toNat = 0 from rfl] at hx397_0)
                                  (try rw [Addr.add_zero'] at hx397_0)
                                  replace p397 := eq_true p397
                                  replace q397 := eq_true q397
                                  have p398 : 0 ≤ (1 : Int) := (by omega)
                                  have q398 : 1 < (t371.length : Int) := of_decide_eq_true (by first | (with_reducible assumption) | assumption)
                                  obtain ⟨ad398, e398, hx398_0⟩ := Kd.at_int (Kd.R_reads' HO_2.out).2.2 1 p398 q398
                                  obtain rfl : ad397 = ad398 := (by injection e398)
                                  (try simp only [show (1 : Int).toNat = 1 from rfl, Nat.reduceMul, Nat.reduceEqDiff, Go.Addr.add, ↓reduceIte] at hx398_0)
                                  have qi398 : (1 < t371.length) = True := eq_true (by omega)
                                  (try rw [show ((1 : Int)).toNat = 1 from rfl] at hx398_0)
                                  replace p398 := eq_true p398
                                  replace q398 := eq_true q398
                                  go_wp2
                                  go_ret
                                  exact ⟨by first | rfl | (simp [errW_none, errW_some] <;> rfl) | (simp [*, errW_none, errW_some] <;> rfl), by repeat (first | (with_reducible first | exact HB.out | apply below_alloc | apply pw_below_drewN | apply below_drew1 | refine below_set ?_ GE370.out) | exact HB.out)⟩
                              · rw [if_neg c55] at H
                                have c55b0 : (t389 == 0) = false := beq_eq_false_iff_ne.mpr c55
                                have c55b1 : (t389 != 0) = true := bne_iff_ne.mpr c55
                                obtain rfl := Option.some.inj H
                                obtain ⟨Ao70, co70, eo70⟩ := Kd.R_slice HO_2.out
                                subst eo70
                                have p397 : 0 ≤ (0 : Int) := (by omega)
                                have q397 : 0 < (t371.length : Int) := of_decide_eq_true (by first | (with_reducible assumption) | assumption)
                                obtain ⟨ad397, e397, hx397_0⟩ := Kd.at_int (Kd.R_reads' HO_2.out).2.2 0 p397 q397
                                cases e397
                                have qi397 : (0 < t371.length) = True := eq_true (by omega)
                                (try rw [show ((0 : Int)).toNat = 0 from rfl] at hx397_0)
                                (try rw [Addr.add_zero'] at hx397_0)
                                replace p397 := eq_true p397
                                replace q397 := eq_true q397
                                have p398 : 0 ≤ (1 : Int) := (by omega)
                                have q398 : 1 < (t371.length : Int) := of_decide_eq_true (by first | (with_reducible assumption) | assumption)
                                obtain ⟨ad398, e398, hx398_0⟩ := Kd.at_int (Kd.R_reads' HO_2.out).2.2 1 p398 q398
                                obtain rfl : ad397 = ad398 := (by injection e398)
                                (try simp only [show (1 : Int).toNat = 1 from rfl, Nat.reduceMul, Nat.reduceEqDiff, Go.Addr.add, ↓reduceIte] at hx398_0)
                                have qi398 : (1 < t371.length) = True := eq_true (by omega)
                                (try rw [show ((1 : Int)).toNat = 1 from rfl] at hx398_0)
                                replace p398 := eq_true p398
                                replace q398 := eq_true q398
                                go_wp2
                                go_ret
                                exact ⟨by first | rfl | (simp [errW_none, errW_some] <;> rfl) | (simp [*, errW_none, errW_some] <;> rfl), by repeat (first | (with_reducible first | exact HB.out | apply below_alloc | apply pw_below_drewN | apply below_drew1 | refine below_set ?_ GE370.out) | exact HB.out)⟩
                            · rw [if_neg c54] at H
                              have c54b0 : (t388 == 4) = false := beq_eq_false_iff_ne.mpr c54
                              have c54b1 : (t388 != 4) = true := bne_iff_ne.mpr c54
                              obtain rfl := Option.some.inj H
                              obtain ⟨Ao71, co71, eo71⟩ := Kd.R_slice HO_2.out
                              subst eo71
                              have p397 : 0 ≤ (0 : Int) := (by omega)
                              have q397 : 0 < (t371.length : Int) := of_decide_eq_true (by first | (with_reducible assumption) | assumption)
                              obtain ⟨ad397, e397, hx397_0⟩ := Kd.at_int (Kd.R_reads' HO_2.out).2.2 0 p397 q397
                              cases e397
                              have qi397 : (0 < t371.length) = True := eq_true (by omega)
                              (try rw [show ((0 : Int)).toNat = 0 from rfl] at hx397_0)
                              (try rw [Addr.add_zero'] at hx397_0)
                              replace p397 := eq_true p397
                              replace q397 := eq_true q397
                              have p398 : 0 ≤ (1 : Int) := (by omega)
                              have q398 : 1 < (t371.length : Int) := of_decide_eq_true (by first | (with_reducible assumption) | assumption)
                              obtain ⟨ad398, e398, hx398_0⟩ := Kd.at_int (Kd.R_reads' HO_2.out).2.2 1 p398 q398
                              obtain rfl : ad397 = ad398 := (by injection e398)
                              (try simp only [show (1 : Int).toNat = 1 from rfl, Nat.reduceMul, Nat.reduceEqDiff, Go.Addr.add, ↓reduceIte] at hx398_0)
                              have qi398 : (1 < t371.length) = True := eq_true (by omega)
                              (try rw [show ((1 : Int)).toNat = 1 from rfl] at hx398_0)
                              replace p398 := eq_true p398
                              replace q398 := eq_true q398
                              go_wp2
                              go_ret
                              exact ⟨by first | rfl | (simp [errW_none, errW_some] <;> rfl) | (simp [*, errW_none, errW_some] <;> rfl), by repeat (first | (with_reducible first | exact HB.out | apply below_alloc | apply pw_below_drewN | apply below_drew1 | refine below_set ?_ GE370.out) | exact HB.out)⟩
                          · rw [if_neg c53] at H
                            have c53b0 : (t387 == 1) = false := beq_eq_false_iff_ne.mpr c53
                            have c53b1 : (t387 != 1) = true := bne_iff_ne.mpr c53
                            obtain rfl := Option.some.inj H
                            obtain ⟨Ao72, co72, eo72⟩ := Kd.R_slice HO_2.out
                            subst eo72
                            have p397 : 0 ≤ (0 : Int) := (by omega)
                            have q397 : 0 < (t371.length : Int) := of_decide_eq_true (by first | (with_reducible assumption) | assumption)
                            obtain ⟨ad397, e397, hx397_0⟩ := Kd.at_int (Kd.R_reads' HO_2.out).2.2 0 p397 q397
                            cases e397
                            have qi397 : (0 < t371.length) = True := eq_true (by omega)
                            (try rw [show ((0 : Int)).toNat = 0 from rfl] at hx397_0)
                            (try rw [Addr.add_zero'] at hx397_0)
                            replace p397 := eq_true p397
                            replace q397 := eq_true q397
                            have p398 : 0 ≤ (1 : Int) := (by omega)
                            have q398 : 1 < (t371.length : Int) := of_decide_eq_true (by first | (with_reducible assumption) | assumption)
                            obtain ⟨ad398, e398, hx398_0⟩ := Kd.at_int (Kd.R_reads' HO_2.out).2.2 1 p398 q398
                            obtain rfl : ad397 = ad398 := (by injection e398)
                            (try simp only [show (1 : Int).toNat = 1 from rfl, Nat.reduceMul, Nat.reduceEqDiff, Go.Addr.add, ↓reduceIte] at hx398_0)
                            have qi398 : (1 < t371.length) = True := eq_true (by omega)
                            (try rw [show ((1 : Int)).toNat = 1 from rfl] at hx398_0)
                            replace p398 := eq_true p398
                            replace q398 := eq_true q398
                            go_wp2
                            go_ret
                            exact ⟨by first | rfl | (simp [errW_none, errW_some] <;> rfl) | (simp [*, errW_none, errW_some] <;> rfl), by repeat (first | (with_reducible first | exact HB.out | apply below_alloc | apply pw_below_drewN | apply below_drew1 | refine below_set ?_ GE370.out) | exact HB.out)⟩
                        · rw [if_neg c52] at H
                          have c52b0 : (t385.toList == ([43, 118, 111, 105, 99, 101, 100, 45, 110, 97, 115, 97, 108, 45, 118, 111, 119, 101, 108] : List UInt8)) = false := beq_eq_false_iff_ne.mpr c52
                          have c52b1 : (t385.toList != ([43, 118, 111, 105, 99, 101, 100, 45, 110, 97, 115, 97, 108, 45, 118, 111, 119, 101, 108] : List UInt8)) = true := bne_iff_ne.mpr c52
                          obtain rfl := Option.some.inj H
                          obtain ⟨Ao73, co73, eo73⟩ := Kd.R_slice HO_2.out
                          subst eo73
                          have p397 : 0 ≤ (0 : Int) := (by omega)
                          have q397 : 0 < (t371.length : Int) := of_decide_eq_true (by first | (with_reducible assumption) | assumption)
                          obtain ⟨ad397, e397, hx397_0⟩ := Kd.at_int (Kd.R_reads' HO_2.out).2.2 0 p397 q397
                          cases e397
                          have qi397 : (0 < t371.length) = True := eq_true (by omega)
                          (try rw [show ((0 : Int)).toNat = 0 from rfl] at hx397_0)
                          (try rw [Addr.add_zero'] at hx397_0)
                          replace p397 := eq_true p397
                          replace q397 := eq_true q397
                          have p398 : 0 ≤ (1 : Int) := (by omega)
                          have q398 : 1 < (t371.length : Int) := of_decide_eq_true (by first | (with_reducible assumption) | assumption)
                          obtain ⟨ad398, e398, hx398_0⟩ := Kd.at_int (Kd.R_reads' HO_2.out).2.2 1 p398 q398
                          obtain rfl : ad397 = ad398 := (by injection e398)
                          (try simp only [show (1 : Int).toNat = 1 from rfl, Nat.reduceMul, Nat.reduceEqDiff, Go.Addr.add, ↓reduceIte] at hx398_0)
                          have qi398 : (1 < t371.length) = True := eq_true (by omega)
                          (try rw [show ((1 : Int)).toNat = 1 from rfl] at hx398_0)
                          replace p398 := eq_true p398
                          replace q398 := eq_true q398
                          go_wp2
                          go_ret
                          exact ⟨by first | rfl | (simp [errW_none, errW_some] <;> rfl) | (simp [*, errW_none, errW_some] <;> rfl), by repeat (first | (with_reducible first | exact HB.out | apply below_alloc | apply pw_below_drewN | apply below_drew1 | refine below_set ?_ GE370.out) | exact HB.out)⟩
                      · rw [if_neg c51] at H
                        have c51b0 : (t383 == 4) = false := beq_eq_false_iff_ne.mpr c51
                        have c51b1 : (t383 != 4) = true := bne_iff_ne.mpr c51
                        obtain rfl := Option.some.inj H
                        obtain ⟨Ao74, co74, eo74⟩ := Kd.R_slice HO_2.out
                        subst eo74
                        have p397 : 0 ≤ (0 : Int) := (by omega)
                        have q397 : 0 < (t371.length : Int) := of_decide_eq_true (by first | (with_reducible assumption) | assumption)
                        obtain ⟨ad397, e397, hx397_0⟩ := Kd.at_int (Kd.R_reads' HO_2.out).2.2 0 p397 q397
                        cases e397
                        have qi397 : (0 < t371.length) = True := eq_true (by omega)
                        (try rw [show ((0 : Int)).toNat = 0 from rfl] at hx397_0)
                        (try rw [Addr.add_zero'] at hx397_0)
                        replace p397 := eq_true p397
                        replace q397 := eq_true q397
                        have p398 : 0 ≤ (1 : Int) := (by omega)
                        have q398 : 1 < (t371.length : Int) := of_decide_eq_true (by first | (with_reducible assumption) | assumption)
                        obtain ⟨ad398, e398, hx398_0⟩ := Kd.at_int (Kd.R_reads' HO_2.out).2.2 1 p398 q398
                        obtain rfl : ad397 = ad398 := (by injection e398)
                        (try simp only [show (1 : Int).toNat = 1 from rfl, Nat.reduceMul, Nat.reduceEqDiff, Go.Addr.add, ↓reduceIte] at hx398_0)
                        have qi398 : (1 < t371.length) = True := eq_true (by omega)
                        (try rw [show ((1 : Int)).toNat = 1 from rfl] at hx398_0)
                        replace p398 := eq_true p398
                        replace q398 := eq_true q398
                        go_wp2
                        go_ret
                        exact ⟨by first | rfl | (simp [errW_none, errW_some] <;> rfl) | (simp [*, errW_none, errW_some] <;> rfl), by repeat (first | (with_reducible first | exact HB.out | apply below_alloc | apply pw_below_drewN | apply below_drew1 | refine below_set ?_ GE370.out) | exact HB.out)⟩
                    · rw [if_neg c50] at H
                      have c50b0 : (t382 == 1) = false := beq_eq_false_iff_ne.mpr c50
                      have c50b1 : (t382 != 1) = true := bne_iff_ne.mpr c50
                      obtain rfl := Option.some.inj H
                      obtain ⟨Ao75, co75, eo75⟩ := Kd.R_slice HO_2.out
                      subst eo75
                      have p397 : 0 ≤ (0 : Int) := (by omega)
                      have q397 : 0 < (t371.length : Int) := of_decide_eq_true (by first | (with_reducible assumption) | assumption)
                      obtain ⟨ad397, e397, hx397_0⟩ := Kd.at_int (Kd.R_reads' HO_2.out).2.2 0 p397 q397
                      cases e397
                      have qi397 : (0 < t371.length) = True := eq_true (by omega)
                      (try rw [show ((0 : Int)).toNat = 0 from rfl] at hx397_0)
                      (try rw [Addr.add_zero'] at hx397_0)
                      replace p397 := eq_true p397
                      replace q397 := eq_true q397
                      have p398 : 0 ≤ (1 : Int) := (by omega)
                      have q398 : 1 < (t371.length : Int) := of_decide_eq_true (by first | (with_reducible assumption) | assumption)
                      obtain ⟨ad398, e398, hx398_0⟩ := Kd.at_int (Kd.R_reads' HO_2.out).2.2 1 p398 q398
                      obtain rfl : ad397 = ad398 := (by injection e398)
                      (try simp only [show (1 : Int).toNat = 1 from rfl, Nat.reduceMul, Nat.reduceEqDiff, Go.Addr.add, ↓reduceIte] at hx398_0)
                      have qi398 : (1 < t371.length) = True := eq_true (by omega)
                      (try rw [show ((1 : Int)).toNat = 1 from rfl] at hx398_0)
                      replace p398 := eq_true p398
                      replace q398 := eq_true q398
                      go_wp2
                      go_ret
                      exact ⟨by first | rfl | (simp [errW_none, errW_some] <;> rfl) | (simp [*, errW_none, errW_some] <;> rfl), by repeat (first | (with_reducible first | exact HB.out | apply below_alloc | apply pw_below_drewN | apply below_drew1 | refine below_set ?_ GE370.out) | exact HB.out)⟩
                  · rw [if_neg c49] at H
                    have c49b0 : (t377 == 3) = false := beq_eq_false_iff_ne.mpr c49
                    have c49b1 : (t377 != 3) = true := bne_iff_ne.mpr c49
                    obtain rfl := Option.some.inj H
                    obtain ⟨Ao76, co76, eo76⟩ := Kd.R_slice HO_2.out
                    subst eo76
                    have p397 : 0 ≤ (0 : Int) := (by omega)
                    have q397 : 0 < (t371.length : Int) := of_decide_eq_true (by first | (with_reducible assumption) | assumption)
                    obtain ⟨ad397, e397, hx397_0⟩ := Kd.at_int (Kd.R_reads' HO_2.out).2.2 0 p397 q397
                    cases e397
                    have qi397 : (0 < t371.length) = True := eq_true (by omega)
                    (try rw [show ((0 : Int)).toNat = 0 from rfl] at hx397_0)
                    (try rw [Addr.add_zero'] at hx397_0)
                    replace p397 := eq_true p397
                    replace q397 := eq_true q397
                    have p398 : 0 ≤ (1 : Int) := (by omega)
                    have q398 : 1 < (t371.length : Int) := of_decide_eq_true (by first | (with_reducible assumption) | assumption)
                    obtain ⟨ad398, e398, hx398_0⟩ := Kd.at_int (Kd.R_reads' HO_2.out).2.2 1 p398 q398
                    obtain rfl : ad397 = ad398 := (by injection e398)
                    (try simp only [show (1 : Int).toNat = 1 from rfl, Nat.reduceMul, Nat.reduceEqDiff, Go.Addr.add, ↓reduceIte] at hx398_0)
                    have qi398 : (1 < t371.length) = True := eq_true (by omega)
                    (try rw [show ((1 : Int)).toNat = 1 from rfl] at hx398_0)
                    replace p398 := eq_true p398
                    replace q398 := eq_true q398
                    go_wp2
                    go_ret
                    exact ⟨by first | rfl | (simp [errW_none, errW_some] <;> rfl) | (simp [*, errW_none, errW_some] <;> rfl), by repeat (first | (with_reducible first | exact HB.out | apply below_alloc | apply pw_below_drewN | apply below_drew1 | refine below_set ?_ GE370.out) | exact HB.out)⟩
                · rw [if_neg c48] at H
                  have c48b0 : (t375 == 112) = false := beq_eq_false_iff_ne.mpr c48
                  have c48b1 : (t375 != 112) = true := bne_iff_ne.mpr c48
                  obtain rfl := Option.some.inj H
                  obtain ⟨Ao77, co77, eo77⟩ := Kd.R_slice HO_2.out
                  subst eo77
                  have p397 : 0 ≤ (0 : Int) := (by omega)
                  have q397 : 0 < (t371.length : Int) := of_decide_eq_true (by first | (with_reducible assumption) | assumption)
                  obtain ⟨ad397, e397, hx397_0⟩ := Kd.at_int (Kd.R_reads' HO_2.out).2.2 0 p397 q397
                  cases e397
                  have qi397 : (0 < t371.length) = True := eq_true (by omega)
                  (try rw [show ((0 : Int)).toNat = 0 from rfl] at hx397_0)
                  (try rw [Addr.add_zero'] at hx397_0)
                  replace p397 := eq_true p397
                  replace q397 := eq_true q397
                  have p398 : 0 ≤ (1 : Int) := (by omega)
                  have q398 : 1 < (t371.length : Int) := of_decide_eq_true (by first | (with_reducible assumption) | assumption)
                  obtain ⟨ad398, e398, hx398_0⟩ := Kd.at_int (Kd.R_reads' HO_2.out).2.2 1 p398 q398
                  obtain rfl : ad397 = ad398 := (by injection e398)
                  (try simp only [show (1 : Int).toNat = 1 from rfl, Nat.reduceMul, Nat.reduceEqDiff, Go.Addr.add, ↓reduceIte] at hx398_0)
                  have qi398 : (1 < t371.length) = True := eq_true (by omega)
                  (try rw [show ((1 : Int)).toNat = 1 from rfl] at hx398_0)
                  replace p398 := eq_true p398
                  replace q398 := eq_true q398
                  go_wp2
                  go_ret
                  exact ⟨by first | rfl | (simp [errW_none, errW_some] <;> rfl) | (simp [*, errW_none, errW_some] <;> rfl), by repeat (first | (with_reducible first | exact HB.out | apply below_alloc | apply pw_below_drewN | apply below_drew1 | refine below_set ?_ GE370.out) | exact HB.out)⟩
              · rw [if_neg c47] at H
                have c47b0 : ((rd t371 1) == 109) = false := beq_eq_false_iff_ne.mpr c47
                have c47b1 : ((rd t371 1) != 109) = true := bne_iff_ne.mpr c47
                obtain rfl := Option.some.inj H
                obtain ⟨Ao78, co78, eo78⟩ := Kd.R_slice HO_2.out
                subst eo78
                have p397 : 0 ≤ (0 : Int) := (by omega)
                have q397 : 0 < (t371.length : Int) := of_decide_eq_true (by first | (with_reducible assumption) | assumption)
                obtain ⟨ad397, e397, hx397_0⟩ := Kd.at_int (Kd.R_reads' HO_2.out).2.2 0 p397 q397
                cases e397
                have qi397 : (0 < t371.length) = True := eq_true (by omega)
                (try rw [show ((0 : Int)).toNat = 0 from rfl] at hx397_0)
                (try rw [Addr.add_zero'] at hx397_0)
                replace p397 := eq_true p397
                replace q397 := eq_true q397
                have p398 : 0 ≤ (1 : Int) := (by omega)
                have q398 : 1 < (t371.length : Int) := of_decide_eq_true (by first | (with_reducible assumption) | assumption)
                obtain ⟨ad398, e398, hx398_0⟩ := Kd.at_int (Kd.R_reads' HO_2.out).2.2 1 p398 q398
                obtain rfl : ad397 = ad398 := (by injection e398)
                (try simp only [show (1 : Int).toNat = 1 from rfl, Nat.reduceMul, Nat.reduceEqDiff, Go.Addr.add, ↓reduceIte] at hx398_0)
                have qi398 : (1 < t371.length) = True := eq_true (by omega)
                (try rw [show ((1 : Int)).toNat = 1 from rfl] at hx398_0)
                replace p398 := eq_true p398
                replace q398 := eq_true q398
                go_wp2
                go_ret
                exact ⟨by first | rfl | (simp [errW_none, errW_some] <;> rfl) | (simp [*, errW_none, errW_some] <;> rfl), by repeat (first | (with_reducible first | exact HB.out | apply below_alloc | apply pw_below_drewN | apply below_drew1 | refine below_set ?_ GE370.out) | exact HB.out)⟩
            · rw [if_neg c46] at H
              exact absurd H (by simp)
          · rw [if_neg c45] at H
            have c45b0 : ((rd t371 0) == 98) = false := beq_eq_false_iff_ne.mpr c45
            have c45b1 : ((rd t371 0) != 98) = true := bne_iff_ne.mpr c45
            obtain rfl := Option.some.inj H
            obtain ⟨Ao79, co79, eo79⟩ := Kd.R_slice HO_2.out
            subst eo79
            have p397 : 0 ≤ (0 : Int) := (by omega)
            have q397 : 0 < (t371.length : Int) := of_decide_eq_true (by first | (with_reducible assumption) | assumption)
            obtain ⟨ad397, e397, hx397_0⟩ := Kd.at_int (Kd.R_reads' HO_2.out).2.2 0 p397 q397
            cases e397
            have qi397 : (0 < t371.length) = True := eq_true (by omega)
            (try rw [show ((0 : Int)).toNat = 0 from rfl] at hx397_0)
            (try rw [Addr.add_zero'] at hx397_0)
            replace p397 := eq_true p397
            replace q397 := eq_true q397
            go_wp2
            go_ret
            exact ⟨by first | rfl | (simp [errW_none, errW_some] <;> rfl) | (simp [*, errW_none, errW_some] <;> rfl), by repeat (first | (with_reducible first | exact HB.out | apply below_alloc | apply pw_below_drewN | apply below_drew1 | refine below_set ?_ GE370.out) | exact HB.out)⟩
        · rw [if_neg c44] at H
          exact absurd H (by simp)

end Go.Proofs.YtjnikjnkmcbjfaaDoor.X
