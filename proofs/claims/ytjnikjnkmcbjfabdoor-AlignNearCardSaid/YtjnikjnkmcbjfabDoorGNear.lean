/- feature.Near, walked: the letter nearest to one with features turned. -/
import Derived.Test.YtjnikjnkmcbjfabDoorGMin
import Derived.Test.YtjnikjnkmcbjfabDoorGOf
namespace Go.Proofs.YtjnikjnkmcbjfabDoor.X
open Go.RowKit Go.Proofs.YtjnikjnkmcbjfabDoorW.PrintWords Go.Proofs.YtjnikjnkmcbjfabDoorW.PrintLast Go.Proofs.YtjnikjnkmcbjfabDoorW.PrintMore
def feature_Near.f (l0_0 : List ByteArray) (l0_1 : List S91) (a1 : Int) (a2 : Int) (a3 : Int) : Option (Int × Int) :=
  (feature_Of.f l0_0 l0_1 a1).bind fun t => if t.2.2.2 = 0 then (if withinB l0_0 a2 a3 = true then some ((minN l0_1 (Go.bits .or .u32 (Go.bits .andNot .u32 t.2.1 a3) a2) (Go.bits .or .u32 (Go.bits .andNot .u32 t.2.2.1 a2) a3) (l0_1.length - 1)).f0, 0) else some (0, 20)) else some (0, t.2.2.2)
theorem of_good {F : List ByteArray} {L : List S91} {r : Int} {t : Int × Int × Int × Int} (h : feature_Of.f F L r = some t) (h0 : t.2.2.2 = 0) : checkB F L = true := by
  unfold feature_Of.f at h
  split at h
  · assumption
  · obtain rfl := Option.some.inj h
    cases h0
set_option maxHeartbeats 2000000 in
set_option maxRecDepth 100000 in
theorem feature_Near.calls (A0_0 : Option Addr) (c0_0 : Nat) (l0_0 : List ByteArray) (A0_1 : Option Addr) (c0_1 : Nat) (l0_1 : List S91) (a1 : Int) (a2 : Int) (a3 : Int) (r1 : Int) (r2 : Int) (w : World) (hr0_0 : Kd.C Kd.string w A0_0 l0_0.length l0_0) (hc0_0 : l0_0.length ≤ c0_0) (hr0_1 : Kd.C k91 w A0_1 l0_1.length l0_1) (hc0_1 : l0_1.length ≤ c0_1) (h : feature_Near.f l0_0 l0_1 a1 a2 a3 = some (r1, r2)) :
    Calls Tryd.prog 85 #[.agg #[.slice A0_0 l0_0.length c0_0, .slice A0_1 l0_1.length c0_1], .int .i32 a1, .int .u32 a2, .int .u32 a3] w fun e w' => e = .returned (.tuple #[.int .i32 r1, .int .i64 r2]) ∧ Below w.heap.size w w' := by
  have HR0 := Aside0.mk hr0_0
  have HC0 := Aside0.mk hc0_0
  have HR1 := Aside0.mk hr0_1
  have HC1 := Aside0.mk hc0_1
  have BW := Aside0.mk (below_alloc (Below.refl _ w) (.cells #[.slice A0_0 l0_0.length c0_0, .slice A0_1 l0_1.length c0_1] 25))
  have KA := Aside0.mk (blk_new w (.cells #[.slice A0_0 l0_0.length c0_0, .slice A0_1 l0_1.length c0_1] 25))
  clear hr0_0 hc0_0 hr0_1 hc0_1
  obtain ⟨⟨x0, x1, x2, e⟩, hO, h⟩ := Option.bind_eq_some_iff.1 h
  simp only at h
  have OF := Aside0.mk hO
  have CA := Aside0.mk (fun (W : World) (hb : Below w.heap.size w W) => feature_Of.calls _ _ l0_0 _ _ l0_1 a1 x0 x1 x2 e W (Kd.C_below HR0.out hb) HC0.out (Kd.C_below HR1.out hb) HC1.out OF.out)
  by_cases he : e = 0
  · subst he
    have GD := Aside0.mk (of_good hO rfl)
    clear hO
    rw [if_pos rfl] at h
    rcases hw : withinB l0_0 a2 a3 with _ | _
    · rw [hw] at h
      simp only [Bool.false_eq_true, if_false, Option.some.injEq, Prod.mk.injEq] at h
      obtain ⟨rfl, rfl⟩ := h
      have CW := Aside0.mk (fun (W : World) (hb : Below w.heap.size w W) => feature_within.calls _ _ l0_0 _ _ l0_1 a2 a3 false W (Kd.C_below HR0.out hb) HC0.out (Kd.C_below HR1.out hb) HC1.out (by rw [within_eq, hw]))
      clear hw
      go_enter Tryd.func85, Tryd.ntmps85
      go_wp2_with fail
      refine (CA.out _ BW.out).mono ?_
      rintro e w2 ⟨rfl, hb⟩
      have K2 := Aside0.mk (blk_alloc (blk_below KA.out hb) (.cells #[.int .i32 x0, .int .u32 x1, .int .u32 x2] 91))
      have B2 := Aside0.mk (below_alloc (below_step BW.out hb) (.cells #[.int .i32 x0, .int .u32 x1, .int .u32 x2] 91))
      have k0 : (w2.alloc (.cells #[.int .i32 x0, .int .u32 x1, .int .u32 x2] 91)).cell? ⟨w.heap.size, 0, none⟩ = some (.slice A0_0 l0_0.length c0_0) := (blk_cell K2.out 0).trans rfl
      have k1 : (w2.alloc (.cells #[.int .i32 x0, .int .u32 x1, .int .u32 x2] 91)).cell? ⟨w.heap.size, 1, none⟩ = some (.slice A0_1 l0_1.length c0_1) := (blk_cell K2.out 1).trans rfl
      clear hb
      go_wp2_with fail
      refine (CW.out _ B2.out).mono ?_
      rintro e w3 ⟨rfl, hb⟩
      have B3 := Aside0.mk (below_step B2.out hb)
      clear hb
      go_wp2
      go_ret2
      exact ⟨rfl, B3.out⟩
    · rw [hw] at h
      simp only [if_true, Option.some.injEq, Prod.mk.injEq] at h
      have HQ := Aside0.mk h
      clear h
      obtain ⟨z1, hz1⟩ : ∃ z, Go.bits .or .u32 (Go.bits .andNot .u32 x1 a3) a2 = z := ⟨_, rfl⟩
      obtain ⟨z2, hz2⟩ : ∃ z, Go.bits .or .u32 (Go.bits .andNot .u32 x2 a2) a3 = z := ⟨_, rfl⟩
      have Z1 := Aside0.mk hz1
      have Z2 := Aside0.mk hz2
      clear hz1 hz2
      have CW := Aside0.mk (fun (W : World) (hb : Below w.heap.size w W) => feature_within.calls _ _ l0_0 _ _ l0_1 a2 a3 true W (Kd.C_below HR0.out hb) HC0.out (Kd.C_below HR1.out hb) HC1.out (by rw [within_eq, hw]))
      clear hw
      go_enter Tryd.func85, Tryd.ntmps85
      go_wp2_with fail
      refine (CA.out _ BW.out).mono ?_
      rintro e w2 ⟨rfl, hb⟩
      have K2 := Aside0.mk (blk_alloc (blk_below KA.out hb) (.cells #[.int .i32 x0, .int .u32 x1, .int .u32 x2] 91))
      have N2 := Aside0.mk (blk_new w2 (.cells #[.int .i32 x0, .int .u32 x1, .int .u32 x2] 91))
      have B2 := Aside0.mk (below_alloc (below_step BW.out hb) (.cells #[.int .i32 x0, .int .u32 x1, .int .u32 x2] 91))
      have S2 := Aside0.mk (below_step BW.out hb).size
      have k0 : (w2.alloc (.cells #[.int .i32 x0, .int .u32 x1, .int .u32 x2] 91)).cell? ⟨w.heap.size, 0, none⟩ = some (.slice A0_0 l0_0.length c0_0) := (blk_cell K2.out 0).trans rfl
      have k1 : (w2.alloc (.cells #[.int .i32 x0, .int .u32 x1, .int .u32 x2] 91)).cell? ⟨w.heap.size, 1, none⟩ = some (.slice A0_1 l0_1.length c0_1) := (blk_cell K2.out 1).trans rfl
      clear hb
      go_wp2_with fail
      refine (CW.out _ B2.out).mono ?_
      rintro e w3 ⟨rfl, hb⟩
      have K3 := Aside0.mk (blk_below K2.out hb)
      have N3 := Aside0.mk (blk_below N2.out hb)
      have B3 := Aside0.mk (below_step B2.out hb)
      clear hb k0 k1
      have ne1 : w.heap.size ≠ w2.heap.size := blk_ne K3.out N3.out (by decide)
      have ne2 : w2.heap.size ≠ w.heap.size := fun e => ne1 e.symm
      have k0 : w3.cell? ⟨w.heap.size, 0, none⟩ = some (.slice A0_0 l0_0.length c0_0) := (blk_cell K3.out 0).trans rfl
      have k1 : w3.cell? ⟨w.heap.size, 1, none⟩ = some (.slice A0_1 l0_1.length c0_1) := (blk_cell K3.out 1).trans rfl
      have n0 : w3.cell? ⟨w2.heap.size, 0, none⟩ = some (.int .i32 x0) := (blk_cell N3.out 0).trans rfl
      have n1 : w3.cell? ⟨w2.heap.size, 1, none⟩ = some (.int .u32 x1) := (blk_cell N3.out 1).trans rfl
      have n2 : w3.cell? ⟨w2.heap.size, 2, none⟩ = some (.int .u32 x2) := (blk_cell N3.out 2).trans rfl
      have f0 := blk_frozen N3.out 0
      have f1 := blk_frozen N3.out 1
      have f2 := blk_frozen N3.out 2
      go_wp2_with fail
      have LN := Aside0.mk (check_feats GD.out).2.1
      have BB := Aside0.mk (blk_put (cs' := #[.int .i32 x0, .int .u32 (Go.bits .or .u32 (Go.bits .andNot .u32 x1 a3) a2), .int .u32 (Go.bits .or .u32 (Go.bits .andNot .u32 x2 a2) a3)]) (blk_put (cs' := #[.int .i32 x0, .int .u32 (Go.bits .or .u32 (Go.bits .andNot .u32 x1 a3) a2), .int .u32 (Go.bits .andNot .u32 x2 a2)]) (blk_put (cs' := #[.int .i32 x0, .int .u32 (Go.bits .andNot .u32 x1 a3), .int .u32 (Go.bits .andNot .u32 x2 a2)]) (blk_put (cs' := #[.int .i32 x0, .int .u32 (Go.bits .andNot .u32 x1 a3), .int .u32 x2]) N3.out 1 (.int .u32 (Go.bits .andNot .u32 x1 a3)) rfl) 2 (.int .u32 (Go.bits .andNot .u32 x2 a2)) rfl) 1 (.int .u32 (Go.bits .or .u32 (Go.bits .andNot .u32 x1 a3) a2)) rfl) 2 (.int .u32 (Go.bits .or .u32 (Go.bits .andNot .u32 x2 a2) a3)) rfl)
      have B5 := Aside0.mk (below_set (j := 2) (v := .int .u32 (Go.bits .or .u32 (Go.bits .andNot .u32 x2 a2) a3)) (below_set (j := 1) (v := .int .u32 (Go.bits .or .u32 (Go.bits .andNot .u32 x1 a3) a2)) (below_set (j := 2) (v := .int .u32 (Go.bits .andNot .u32 x2 a2)) (below_set (j := 1) (v := .int .u32 (Go.bits .andNot .u32 x1 a3)) B3.out S2.out) S2.out) S2.out) S2.out)
      clear k0 k1 n0 n1 n2 f0 f1 f2
      rw [Z1.out, Z2.out] at BB B5 ⊢
      refine (near_min A0_1 c0_1 l0_1 x0 z1 z2 w2.heap.size _ LN.out ((blk_cell BB.out 0).trans rfl) ((blk_cell BB.out 1).trans rfl) ((blk_cell BB.out 2).trans rfl) (Kd.C_below HR1.out B5.out)).mono ?_
      rintro e w4 ⟨rfl, hb⟩
      have B6 := Aside0.mk (below_step B5.out hb)
      clear hb BB
      go_wp2
      go_ret2
      have hq := HQ.out
      rw [Z1.out, Z2.out] at hq
      exact ⟨by rw [hq.1, ← hq.2]; rfl, below_alloc B6.out _⟩
  · clear hO
    rw [if_neg he] at h
    simp only [Option.some.injEq, Prod.mk.injEq] at h
    obtain ⟨rfl, rfl⟩ := h
    have e0 : (e != 0) = true := bne_iff_ne.2 he
    clear he
    go_enter Tryd.func85, Tryd.ntmps85
    go_wp2_with fail
    refine (CA.out _ BW.out).mono ?_
    rintro e w2 ⟨rfl, hb⟩
    have B2 := Aside0.mk (below_step BW.out hb)
    clear hb
    go_wp2
    go_ret2
    exact ⟨rfl, below_alloc B2.out _⟩
end Go.Proofs.YtjnikjnkmcbjfabDoor.X
