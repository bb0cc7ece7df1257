/- bits.OnesCount32: how many of a number's 32 bits are set. -/
import Derived.Test.YtjnikjnkmcbjfabDoorX0
import Derived.Lib.Tables
import Derived.Lib.BitFns
namespace Go.Proofs.YtjnikjnkmcbjfabDoor.X
open Go.RowKit Go.Proofs.YtjnikjnkmcbjfabDoorW.PrintWords Go.Proofs.YtjnikjnkmcbjfabDoorW.PrintLast Go.Proofs.YtjnikjnkmcbjfabDoorW.PrintMore
theorem ones_mask (x : Int) (h0 : 0 ≤ x) (h1 : x < 4294967296) : Go.bits .and .u32 x 255 = x % 256 :=
  bits_mask .u32 32 (by decide) (fun n a b => by rw [IntKind.wrap_u32]; omega) 8 (by decide) x h0 h1
/-- A byte's bits that are set, four bytes together. -/
def bits_OnesCount32.f (a0 : Int) : Option (Int) :=
  if 0 ≤ a0 ∧ a0 < 4294967296 then some (Lib.pop8 (a0 / 16777216) + Lib.pop8 (a0 / 65536 % 256) + Lib.pop8 (a0 / 256 % 256) + Lib.pop8 (a0 % 256)) else none
theorem pop8_range : ∀ n : Fin 256, 0 ≤ Lib.pop8 (n.val : Int) ∧ Lib.pop8 (n.val : Int) ≤ 8 := by decide +kernel
theorem pop8_le (x : Int) (h0 : 0 ≤ x) (h1 : x < 256) : 0 ≤ Lib.pop8 x ∧ Lib.pop8 x ≤ 8 := by
  have := pop8_range ⟨x.toNat, by omega⟩
  simp only [Int.toNat_of_nonneg h0] at this
  exact this
set_option maxHeartbeats 1000000 in
set_option maxRecDepth 100000 in
theorem bits_OnesCount32.calls (a0 : Int) (r : Int) (w : World) (h : bits_OnesCount32.f a0 = some r) :
    Calls Tryd.prog 112 #[.int .u32 a0] w fun e w' => e = .returned (.int .i64 r) ∧ Drawn0 w w' := by
  unfold bits_OnesCount32.f at h
  split at h
  · rename_i hc
    obtain ⟨h0, h1⟩ := hc
    obtain rfl := Option.some.inj h
    have m1 := ones_mask (a0 / 65536) (by omega) (by omega)
    have m2 := ones_mask (a0 / 256) (by omega) (by omega)
    have m3 := ones_mask a0 h0 h1
    have p0 := pop8_le (a0 / 16777216) (by omega) (by omega)
    have p1 := pop8_le (a0 / 65536 % 256) (by omega) (by omega)
    have p2 := pop8_le (a0 / 256 % 256) (by omega) (by omega)
    have p3 := pop8_le (a0 % 256) (by omega) (by omega)
    have q0 : 0 ≤ a0 / 16777216 := by omega
    have q1 : a0 / 16777216 ≤ 255 := by omega
    go_enter Tryd.func112, Tryd.ntmps112
    go_wp2
    go_quiet (fail)
    go_wp2
    go_ret
    exact ⟨rfl, by repeat (first | exact Drawn0.refl _ | apply Drawn0.step)⟩
  · cases h
end Go.Proofs.YtjnikjnkmcbjfabDoor.X
