-- Written by this session's own program wip/gen/xprint.py (out of the translation, by the kit's printer taught a few things more).
import Derived.Test.YtjnikjnkmcbjfaaDoorX0
namespace Go.Proofs.YtjnikjnkmcbjfaaDoor.X
open Go.RowKit Go.Proofs.YtjnikjnkmcbjfaaDoorW.PrintWords Go.Proofs.YtjnikjnkmcbjfaaDoorW.PrintLast Go.Proofs.YtjnikjnkmcbjfaaDoorW.PrintMore
attribute [local go_sem] max2_int min2_int max_two min_two max_three min_three max_four min_four   -- for this text's walks alone
set_option linter.unusedVariables false
set_option linter.unusedSimpArgs false

/-! ### cognatelaw02_signs: function 43 -/
def cognatelaw02_signs.l0 : Nat → Int → Int → Int → Int → Int → Int → Int → Option (Int)
  | 0, _, _, _, _, _, _, _ => none
  | k + 1, x1, x2, x7, x8, x650000, x650001, x650002 => if x8 < 24 then (if 0 ≤ (IntKind.u64.wrap (x8)) then (if (Go.bits .and .u32 (shr .u32 x650001 (IntKind.u64.wrap (x8))) 1) = (Go.bits .and .u32 (shr .u32 x1 (IntKind.u64.wrap (x8))) 1) then (if (Go.bits .and .u32 (shr .u32 x650002 (IntKind.u64.wrap (x8))) 1) = (Go.bits .and .u32 (shr .u32 x2 (IntKind.u64.wrap (x8))) 1) then (cognatelaw02_signs.l0 k x1 x2 x7 (wrap64 (x8 + 1)) x650000 x650001 x650002) else (cognatelaw02_signs.l0 k x1 x2 (wrap64 (x7 + 1)) (wrap64 (x8 + 1)) x650000 x650001 x650002)) else (cognatelaw02_signs.l0 k x1 x2 (wrap64 (x7 + 1)) (wrap64 (x8 + 1)) x650000 x650001 x650002)) else (none)) else (some x7)
def cognatelaw02_signs.f (k : Nat) (a0_0 : Int) (a0_1 : Int) (a0_2 : Int) (a1 : Int) (a2 : Int) : Option (Int) := cognatelaw02_signs.l0 k a1 a2 0 0 a0_0 a0_1 a0_2
theorem cognatelaw02_signs.mono_l : ∀ k, (∀ y0 y1 y2 y3 y4 y5 y6, LeO (cognatelaw02_signs.l0 k y0 y1 y2 y3 y4 y5 y6) (cognatelaw02_signs.l0 (k + 1) y0 y1 y2 y3 y4 y5 y6))
  | 0 => fun _ _ _ _ _ _ _ r h => by simp [cognatelaw02_signs.l0] at h
  | k + 1 => by
    have ih0 := cognatelaw02_signs.mono_l k
    · intro y0 y1 y2 y3 y4 y5 y6
      unfold cognatelaw02_signs.l0
      repeat' first
      | (with_reducible exact ih0 _ _ _ _ _ _ _)
      | (with_reducible exact LeO.refl _)
      | (with_reducible exact LeO.none _)
      | (with_reducible refine LeO.ite ?_ ?_)
      | (with_reducible refine LeO.bind ?_ (fun _ => ?_))
      | exact ih0 _ _ _ _ _ _ _
      | exact LeO.none _
      | refine LeO.ite ?_ ?_
      | refine LeO.bind ?_ (fun _ => ?_)
theorem cognatelaw02_signs.mono : ∀ a0 a1 a2 a3 a4 k, LeO (cognatelaw02_signs.f k a0 a1 a2 a3 a4) (cognatelaw02_signs.f (k + 1) a0 a1 a2 a3 a4) := by
  intro a0 a1 a2 a3 a4 k
  have ih0 := cognatelaw02_signs.mono_l k
  unfold cognatelaw02_signs.f
  repeat' first
      | (with_reducible exact ih0 _ _ _ _ _ _ _)
      | (with_reducible exact LeO.refl _)
      | (with_reducible exact LeO.none _)
      | (with_reducible refine LeO.ite ?_ ?_)
      | (with_reducible refine LeO.bind ?_ (fun _ => ?_))
      | exact ih0 _ _ _ _ _ _ _
      | exact LeO.none _
      | refine LeO.ite ?_ ?_
      | refine LeO.bind ?_ (fun _ => ?_)
set_option maxHeartbeats 8000000 in
set_option maxRecDepth 100000 in
theorem cognatelaw02_signs.calls (k : Nat) (a0_0 : Int) (a0_1 : Int) (a0_2 : Int) (a1 : Int) (a2 : Int) (r : Int) (w : World) (h : cognatelaw02_signs.f k a0_0 a0_1 a0_2 a1 a2 = some r) :
    Calls Tryd.prog 43 #[.agg #[.int .i32 a0_0, .int .u32 a0_1, .int .u32 a0_2], .int .u32 a1, .int .u32 a2] w fun e w' => e = .returned (.int .i64 r) ∧ Below w.heap.size w w' := by
  have hu53 := Tryd.underlying53
  have HB := Aside0.mk (Below.refl w.heap.size w)
  have H : (cognatelaw02_signs.l0 k a1 a2 0 0 a0_0 a0_1 a0_2) = some r := h
  clear h
  have H' := Aside0.mk H
  clear H
  go_enter Tryd.func43, Tryd.ntmps43
  go_wp2_with (first | ((with_reducible refine gate_dst (N := 3) rfl ?_); refine box_event ?hg (N := 3) ?hd (cs := #[.int .i32 a0_0, .int .u32 a0_1, .int .u32 a0_2]) (t := 53) ?hr ?_; (case hd => rfl); (case hg => rfl); (case hr => first | (go_simp; done) | (go_simp; rfl)); intro gb649 hg w4 hbox hb; have n0_ := Aside0.mk (below_step (by repeat (first | (with_reducible first | exact HB.out | apply below_alloc | apply pw_below_drewN | apply below_drew1) | exact HB.out)) hb); have n1_ := Aside0.mk (hbox); have n2_ := Aside0.mk ((by rw [hg]; exact (below_size (by repeat (first | (with_reducible first | exact HB.out | apply below_alloc | apply pw_below_drewN | apply below_drew1) | exact HB.out))) : w.heap.size ≤ gb649)); have n3_ := Aside0.mk ((by rw [hg]; exact (below_size (by repeat (first | (with_reducible first | exact HB.out | apply below_alloc | apply pw_below_drewN | apply below_drew1) | exact HB.out))) : w.heap.size ≤ gb649)); clear HB; have HB := n0_; have BK649 := n1_; have GW649 := n2_; have GE649 := n3_; clear n0_ n1_ n2_ n3_; clear hb hbox hg))
  go_loopg [7, 8] k (fun kq v7 v8 w' => ∃ (x7_1 : Int) (x8_1 : Int), v7 = .int .i64 x7_1 ∧ v8 = .int .i64 x8_1 ∧ Aside0 (cognatelaw02_signs.l0 kq a1 a2 x7_1 x8_1 a0_0 a0_1 a0_2 = some r) ∧ Aside0 (kq ≤ k) ∧ Aside0 (w'.heap[gb649]? = some (.cells #[.int .i32 a0_0, .int .u32 a0_1, .int .u32 a0_2] 53 (0, 0))) ∧ Aside0 (Below w.heap.size w w'))
  case atStart => exact ⟨(0), (0), (by first | rfl | (simp; done) | (simp [*]; done)), (by first | rfl | (simp; done) | (simp [*]; done)), H', ⟨Nat.le_refl _⟩, ⟨by (with_reducible repeat (first | refine blk_drewN ?_ _ | refine blk_drew ?_ | refine blk_alloc ?_ _)); exact BK649.out⟩, ⟨by repeat (first | (with_reducible first | exact HB.out | apply below_alloc | apply pw_below_drewN | apply below_drew1 | refine below_set ?_ GE649.out) | exact HB.out)⟩⟩
  case round =>
    clear H'
    try clear p2
    try clear c4
    obtain ⟨x7_1, x8_1, rfl, rfl, HA, HK1, BK649, HB⟩ := hrel
    cases gk with
    | zero => exact absurd HA.out (by simp [cognatelaw02_signs.l0])
    | succ k1 =>
      have H := HA.out
      clear HA
      simp only [cognatelaw02_signs.l0] at H
      by_cases c5 : x8_1 < 24
      · rw [if_pos c5] at H
        have c5b0 : decide (x8_1 < 24) = true := decide_eq_true c5
        clear c5
        obtain ⟨ji6, hji6⟩ : ∃ j_ : Int, (IntKind.u64.wrap (x8_1)) = j_ := ⟨_, rfl⟩
        replace H : (if 0 ≤ (ji6) then (if (Go.bits .and .u32 (shr .u32 a0_1 (ji6)) 1) = (Go.bits .and .u32 (shr .u32 a1 (ji6)) 1) then (if (Go.bits .and .u32 (shr .u32 a0_2 (ji6)) 1) = (Go.bits .and .u32 (shr .u32 a2 (ji6)) 1) then (cognatelaw02_signs.l0 k1 a1 a2 x7_1 (wrap64 (x8_1 + 1)) a0_0 a0_1 a0_2) else (cognatelaw02_signs.l0 k1 a1 a2 (wrap64 (x7_1 + 1)) (wrap64 (x8_1 + 1)) a0_0 a0_1 a0_2)) else (cognatelaw02_signs.l0 k1 a1 a2 (wrap64 (x7_1 + 1)) (wrap64 (x8_1 + 1)) a0_0 a0_1 a0_2)) else (none)) = some r := by first | (rw [hji6] at H; exact H) | (simp only [hji6] at H ⊢; exact H)
        by_cases c7 : 0 ≤ (ji6)
        · rw [if_pos c7] at H
          have c7b0 := eq_true c7
          have c7b1 : decide (0 ≤ (ji6)) = true := decide_eq_true c7
          clear c7
          obtain ⟨ji8, hji8⟩ : ∃ j_ : Int, (shr .u32 a0_1 (ji6)) = j_ := ⟨_, rfl⟩
          replace H : (if (Go.bits .and .u32 (ji8) 1) = (Go.bits .and .u32 (shr .u32 a1 (ji6)) 1) then (if (Go.bits .and .u32 (shr .u32 a0_2 (ji6)) 1) = (Go.bits .and .u32 (shr .u32 a2 (ji6)) 1) then (cognatelaw02_signs.l0 k1 a1 a2 x7_1 (wrap64 (x8_1 + 1)) a0_0 a0_1 a0_2) else (cognatelaw02_signs.l0 k1 a1 a2 (wrap64 (x7_1 + 1)) (wrap64 (x8_1 + 1)) a0_0 a0_1 a0_2)) else (cognatelaw02_signs.l0 k1 a1 a2 (wrap64 (x7_1 + 1)) (wrap64 (x8_1 + 1)) a0_0 a0_1 a0_2)) = some r := by first | (rw [hji8] at H; exact H) | (simp only [hji8] at H ⊢; exact H)
          have hji8_ : (a0_1 / 2 ^ min (ji6).toNat 32) = ji8 := hji8
          have hji8z : (ji6) ≤ 32 → (a0_1 / 2 ^ (ji6).toNat) = ji8 := shr_small hji8
          have c9b0 := eq_true (of_decide_eq_true (by first | (with_reducible assumption) | assumption) : 0 ≤ (ji6))
          obtain ⟨ji10, hji10⟩ : ∃ j_ : Int, (shr .u32 a1 (ji6)) = j_ := ⟨_, rfl⟩
          replace H : (if (Go.bits .and .u32 (ji8) 1) = (Go.bits .and .u32 (ji10) 1) then (if (Go.bits .and .u32 (shr .u32 a0_2 (ji6)) 1) = (Go.bits .and .u32 (shr .u32 a2 (ji6)) 1) then (cognatelaw02_signs.l0 k1 a1 a2 x7_1 (wrap64 (x8_1 + 1)) a0_0 a0_1 a0_2) else (cognatelaw02_signs.l0 k1 a1 a2 (wrap64 (x7_1 + 1)) (wrap64 (x8_1 + 1)) a0_0 a0_1 a0_2)) else (cognatelaw02_signs.l0 k1 a1 a2 (wrap64 (x7_1 + 1)) (wrap64 (x8_1 + 1)) a0_0 a0_1 a0_2)) = some r := by first | (rw [hji10] at H; exact H) | (simp only [hji10] at H ⊢; exact H)
          have hji10_ : (a1 / 2 ^ min (ji6).toNat 32) = ji10 := hji10
          have hji10z : (ji6) ≤ 32 → (a1 / 2 ^ (ji6).toNat) = ji10 := shr_small hji10
          by_cases c11 : (Go.bits .and .u32 (ji8) 1) = (Go.bits .and .u32 (ji10) 1)
          · rw [if_pos c11] at H
            have c11b0 : ((Go.bits .and .u32 (ji8) 1) == (Go.bits .and .u32 (ji10) 1)) = true := beq_iff_eq.mpr c11
            have c11b1 : ((Go.bits .and .u32 (ji8) 1) != (Go.bits .and .u32 (ji10) 1)) = false := bne_eq_false_iff_eq.mpr c11
            clear c11
            have c12b0 := eq_true (of_decide_eq_true (by first | (with_reducible assumption) | assumption) : 0 ≤ (ji6))
            obtain ⟨ji13, hji13⟩ : ∃ j_ : Int, (shr .u32 a0_2 (ji6)) = j_ := ⟨_, rfl⟩
            replace H : (if (Go.bits .and .u32 (ji13) 1) = (Go.bits .and .u32 (shr .u32 a2 (ji6)) 1) then (cognatelaw02_signs.l0 k1 a1 a2 x7_1 (wrap64 (x8_1 + 1)) a0_0 a0_1 a0_2) else (cognatelaw02_signs.l0 k1 a1 a2 (wrap64 (x7_1 + 1)) (wrap64 (x8_1 + 1)) a0_0 a0_1 a0_2)) = some r := by first | (rw [hji13] at H; exact H) | (simp only [hji13] at H ⊢; exact H)
            have hji13_ : (a0_2 / 2 ^ min (ji6).toNat 32) = ji13 := hji13
            have hji13z : (ji6) ≤ 32 → (a0_2 / 2 ^ (ji6).toNat) = ji13 := shr_small hji13
            have c14b0 := eq_true (of_decide_eq_true (by first | (with_reducible assumption) | assumption) : 0 ≤ (ji6))
            obtain ⟨ji15, hji15⟩ : ∃ j_ : Int, (shr .u32 a2 (ji6)) = j_ := ⟨_, rfl⟩
            replace H : (if (Go.bits .and .u32 (ji13) 1) = (Go.bits .and .u32 (ji15) 1) then (cognatelaw02_signs.l0 k1 a1 a2 x7_1 (wrap64 (x8_1 + 1)) a0_0 a0_1 a0_2) else (cognatelaw02_signs.l0 k1 a1 a2 (wrap64 (x7_1 + 1)) (wrap64 (x8_1 + 1)) a0_0 a0_1 a0_2)) = some r := by first | (rw [hji15] at H; exact H) | (simp only [hji15] at H ⊢; exact H)
            have hji15_ : (a2 / 2 ^ min (ji6).toNat 32) = ji15 := hji15
            have hji15z : (ji6) ≤ 32 → (a2 / 2 ^ (ji6).toNat) = ji15 := shr_small hji15
            by_cases c16 : (Go.bits .and .u32 (ji13) 1) = (Go.bits .and .u32 (ji15) 1)
            · rw [if_pos c16] at H
              have c16b0 : ((Go.bits .and .u32 (ji13) 1) == (Go.bits .and .u32 (ji15) 1)) = true := beq_iff_eq.mpr c16
              have c16b1 : ((Go.bits .and .u32 (ji13) 1) != (Go.bits .and .u32 (ji15) 1)) = false := bne_eq_false_iff_eq.mpr c16
              clear c16
              have H' := Aside0.mk H
              clear H
              have hcz17_0 : wr.cell? ⟨gb649, 0, none⟩ = some (.int .i32 a0_0) := (blk_cell BK649.out 0).trans rfl
              have hcz17_1 : wr.cell? ⟨gb649, 1, none⟩ = some (.int .u32 a0_1) := (blk_cell BK649.out 1).trans rfl
              have hcz17_2 : wr.cell? ⟨gb649, 2, none⟩ = some (.int .u32 a0_2) := (blk_cell BK649.out 2).trans rfl
              have hfz17_0 := blk_frozen BK649.out 0
              have hfz17_1 := blk_frozen BK649.out 1
              have hfz17_2 := blk_frozen BK649.out 2
              go_wp2
              go_roundg k1
              case measure => have := HK1.out; omega
              case rel => exact ⟨(x7_1), (wrap64 (x8_1 + 1)), (by first | rfl | (simp; done) | (simp [*]; done)), (by first | rfl | (simp; done) | (simp [*]; done)), H', ⟨by have := HK1.out; omega⟩, ⟨by (with_reducible repeat (first | refine blk_drewN ?_ _ | refine blk_drew ?_ | refine blk_alloc ?_ _)); exact BK649.out⟩, ⟨by repeat (first | (with_reducible first | exact HB.out | apply below_alloc | apply pw_below_drewN | apply below_drew1 | refine below_set ?_ GE649.out) | exact HB.out)⟩⟩
            · rw [if_neg c16] at H
              have c16b0 : ((Go.bits .and .u32 (ji13) 1) == (Go.bits .and .u32 (ji15) 1)) = false := beq_eq_false_iff_ne.mpr c16
              have c16b1 : ((Go.bits .and .u32 (ji13) 1) != (Go.bits .and .u32 (ji15) 1)) = true := bne_iff_ne.mpr c16
              have H' := Aside0.mk H
              clear H
              have hcz18_0 : wr.cell? ⟨gb649, 0, none⟩ = some (.int .i32 a0_0) := (blk_cell BK649.out 0).trans rfl
              have hcz18_1 : wr.cell? ⟨gb649, 1, none⟩ = some (.int .u32 a0_1) := (blk_cell BK649.out 1).trans rfl
              have hcz18_2 : wr.cell? ⟨gb649, 2, none⟩ = some (.int .u32 a0_2) := (blk_cell BK649.out 2).trans rfl
              have hfz18_0 := blk_frozen BK649.out 0
              have hfz18_1 := blk_frozen BK649.out 1
              have hfz18_2 := blk_frozen BK649.out 2
              go_wp2
              go_roundg k1
              case measure => have := HK1.out; omega
              case rel => exact ⟨(wrap64 (x7_1 + 1)), (wrap64 (x8_1 + 1)), (by first | rfl | (simp; done) | (simp [*]; done)), (by first | rfl | (simp; done) | (simp [*]; done)), H', ⟨by have := HK1.out; omega⟩, ⟨by (with_reducible repeat (first | refine blk_drewN ?_ _ | refine blk_drew ?_ | refine blk_alloc ?_ _)); exact BK649.out⟩, ⟨by repeat (first | (with_reducible first | exact HB.out | apply below_alloc | apply pw_below_drewN | apply below_drew1 | refine below_set ?_ GE649.out) | exact HB.out)⟩⟩
          · rw [if_neg c11] at H
            have c11b0 : ((Go.bits .and .u32 (ji8) 1) == (Go.bits .and .u32 (ji10) 1)) = false := beq_eq_false_iff_ne.mpr c11
            have c11b1 : ((Go.bits .and .u32 (ji8) 1) != (Go.bits .and .u32 (ji10) 1)) = true := bne_iff_ne.mpr c11
            have H' := Aside0.mk H
            clear H
            have hcz19_0 : wr.cell? ⟨gb649, 0, none⟩ = some (.int .i32 a0_0) := (blk_cell BK649.out 0).trans rfl
            have hcz19_1 : wr.cell? ⟨gb649, 1, none⟩ = some (.int .u32 a0_1) := (blk_cell BK649.out 1).trans rfl
            have hcz19_2 : wr.cell? ⟨gb649, 2, none⟩ = some (.int .u32 a0_2) := (blk_cell BK649.out 2).trans rfl
            have hfz19_0 := blk_frozen BK649.out 0
            have hfz19_1 := blk_frozen BK649.out 1
            have hfz19_2 := blk_frozen BK649.out 2
            go_wp2
            go_roundg k1
            case measure => have := HK1.out; omega
            case rel => exact ⟨(wrap64 (x7_1 + 1)), (wrap64 (x8_1 + 1)), (by first | rfl | (simp; done) | (simp [*]; done)), (by first | rfl | (simp; done) | (simp [*]; done)), H', ⟨by have := HK1.out; omega⟩, ⟨by (with_reducible repeat (first | refine blk_drewN ?_ _ | refine blk_drew ?_ | refine blk_alloc ?_ _)); exact BK649.out⟩, ⟨by repeat (first | (with_reducible first | exact HB.out | apply below_alloc | apply pw_below_drewN | apply below_drew1 | refine below_set ?_ GE649.out) | exact HB.out)⟩⟩
        · rw [if_neg c7] at H
          exact absurd H (by simp)
      · rw [if_neg c5] at H
        have c5b0 : decide (x8_1 < 24) = false := decide_eq_false c5
        clear c5
        obtain rfl := Option.some.inj H
        go_wp2
        go_ret
        exact ⟨by first | rfl | (simp [errW_none, errW_some] <;> rfl) | (simp [*, errW_none, errW_some] <;> rfl), by repeat (first | (with_reducible first | exact HB.out | apply below_alloc | apply pw_below_drewN | apply below_drew1 | refine below_set ?_ GE649.out) | exact HB.out)⟩

end Go.Proofs.YtjnikjnkmcbjfaaDoor.X
