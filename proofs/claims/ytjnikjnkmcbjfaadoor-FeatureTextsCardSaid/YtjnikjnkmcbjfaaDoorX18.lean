-- Written by this session's own program wip/gen/xprint.py (out of the translation, by the kit's printer taught a few things more).
import Derived.Test.YtjnikjnkmcbjfaaDoorX0
import Derived.Test.YtjnikjnkmcbjfaaDoorX5
import Derived.Test.YtjnikjnkmcbjfaaDoorX8
namespace Go.Proofs.YtjnikjnkmcbjfaaDoor.X
open Go.RowKit Go.Proofs.YtjnikjnkmcbjfaaDoorW.PrintWords Go.Proofs.YtjnikjnkmcbjfaaDoorW.PrintLast Go.Proofs.YtjnikjnkmcbjfaaDoorW.PrintMore
attribute [local go_sem] max2_int min2_int max_two min_two max_three min_three max_four min_four   -- for this text's walks alone
set_option linter.unusedVariables false
set_option linter.unusedSimpArgs false

/-! ### cognateref02_Least: function 52 -/
def cognateref02_Least.l0 : Nat → List Int → Int → Int → Int → List ByteArray → List (S53) → Option (Int × Int × Int)
  | 0, _, _, _, _, _, _ => none
  | k + 1, x1, x8, x9, x10, x775000, x775001 => if x10 < (x1.length : Int) then (if 0 ≤ x10 then ((cognateref02_Find.f k x775000 x775001 (rd x1 x10)).bind fun t780 => (if 0 ≤ t780 then (if t780 < (x775001.length : Int) then (cognateref02_Least.l0 k x1 (Go.bits .and .u32 x8 ((rd_T53 x775001 t780).f1)) (Go.bits .and .u32 x9 ((rd_T53 x775001 t780).f2)) (wrap64 (x10 + 1)) x775000 x775001) else (none)) else (none))) else (none)) else (some (x8, x9, 0))
def cognateref02_Least.f (k : Nat) (l0_0 : List ByteArray) (l0_1 : List (S53)) (l1 : List Int) : Option (Int × Int × Int) := (cognateref02_asked.f k l0_0 l0_1 ([] : List Int)).bind fun t775 => (if t775 = 0 then (if (l1.length : Int) > 128 then (some (0, 0, 4)) else ((cognateref02_asked.f k l0_0 l0_1 l1).bind fun t776 => (if t776 = 0 then (if (l1.length : Int) = 0 then (some (0, 0, 8)) else ((cognateref02_all.f l0_0 l0_1).bind fun t777 => ((cognateref02_all.f l0_0 l0_1).bind fun t778 => (cognateref02_Least.l0 k l1 t777 t778 0 l0_0 l0_1)))) else (some (0, 0, t776))))) else (some (0, 0, t775)))
def cognateref02_Least.T16 : Bool × List (List Nat × List Nat) := (true, [([], []), ([0], [0]), ([], []), ([], []), ([], []), ([3, 4], [3, 4]), ([5], [5]), ([2, 6], [2, 6]), ([1, 7], [1, 7]), ([8], [8]), ([], []), ([10, 9, 7, 0, 1, 2, 3, 4, 5, 6, 7, 8, 9, 10], [9, 10])])
def cognateref02_Least.B16 : List Nat := [0, 1, 0, 0, 0, 24, 56, 124, 255, 511, 0, 2047]
theorem cognateref02_Least.tab16 : rtab .any (opsOf Tryd.f52 16) = cognateref02_Least.T16 := by kernel_rfl
theorem cognateref02_Least.bits16 : waitsOk cognateref02_Least.T16.2 cognateref02_Least.B16 = true := by kernel_rfl
set_option maxHeartbeats 8000000 in
set_option maxRecDepth 100000 in
theorem cognateref02_Least.calls (k : Nat) (A0_0 : Option Addr) (c0_0 : Nat) (l0_0 : List ByteArray) (A0_1 : Option Addr) (c0_1 : Nat) (l0_1 : List (S53)) (A1 : Option Addr) (c1 : Nat) (l1 : List Int) (r1 : Int) (r2 : Int) (r3 : Int) (w : World) (hr0_0 : Kd.C Kd.string w A0_0 l0_0.length l0_0) (hc0_0 : l0_0.length ≤ c0_0) (hr0_1 : Kd.C k53 w A0_1 l0_1.length l0_1) (hc0_1 : l0_1.length ≤ c0_1) (hr1 : Kd.C (Kd.int .i32) w A1 l1.length l1) (hc1 : l1.length ≤ c1) (h : cognateref02_Least.f k l0_0 l0_1 l1 = some (r1, r2, r3)) :
  Calls Tryd.prog 52 #[.agg #[.slice A0_0 l0_0.length c0_0, .slice A0_1 l0_1.length c0_1], .slice A1 l1.length c1] w fun e w' => e = .returned (.tuple #[.int .u32 r1, .int .u32 r2, .int .i64 r3]) ∧ Below w.heap.size w w' := by
 have hu25 := Tryd.underlying25
 have hu53 := Tryd.underlying53
 have HR0_0 := Aside0.mk hr0_0
 have HC0_0 := Aside0.mk hc0_0
 clear hr0_0 hc0_0
 have HR0_1 := Aside0.mk hr0_1
 have HC0_1 := Aside0.mk hc0_1
 clear hr0_1 hc0_1
 have HR1 := Aside0.mk hr1
 have HC1 := Aside0.mk hc1
 clear hr1 hc1
 have HB := Aside0.mk (Below.refl w.heap.size w)
 have H : ((cognateref02_asked.f k l0_0 l0_1 ([] : List Int)).bind fun t775 => (if t775 = 0 then (if (l1.length : Int) > 128 then (some (0, 0, 4)) else ((cognateref02_asked.f k l0_0 l0_1 l1).bind fun t776 => (if t776 = 0 then (if (l1.length : Int) = 0 then (some (0, 0, 8)) else ((cognateref02_all.f l0_0 l0_1).bind fun t777 => ((cognateref02_all.f l0_0 l0_1).bind fun t778 => (cognateref02_Least.l0 k l1 t777 t778 0 l0_0 l0_1)))) else (some (0, 0, t776))))) else (some (0, 0, t775)))) = some (r1, r2, r3) := h
 clear h
 replace H := Option.bind_eq_some_iff.mp H
 obtain ⟨t775, A30, H⟩ := H
 replace H : (if t775 = 0 then (if (l1.length : Int) > 128 then (some (0, 0, 4)) else ((cognateref02_asked.f k l0_0 l0_1 l1).bind fun t776 => (if t776 = 0 then (if (l1.length : Int) = 0 then (some (0, 0, 8)) else ((cognateref02_all.f l0_0 l0_1).bind fun t777 => ((cognateref02_all.f l0_0 l0_1).bind fun t778 => (cognateref02_Least.l0 k l1 t777 t778 0 l0_0 l0_1)))) else (some (0, 0, t776))))) else (some (0, 0, t775))) = some (r1, r2, r3) := H
 have A3 := Aside0.mk A30
 clear A30
 by_cases c4 : t775 = 0
 ·rw [if_pos c4] at H
  have c4b0 : (t775 == 0) = true := beq_iff_eq.mpr c4
  have c4b1 : (t775 != 0) = false := bne_eq_false_iff_eq.mpr c4
  clear c4
  by_cases c5 : (l1.length : Int) > 128
  ·rw [if_pos c5] at H
   have c5b0 : decide (128 < (l1.length : Int)) = true := decide_eq_true c5
   have c5b1 : decide (128 < l1.length) = true := decide_eq_true (by omega)
   clear c5
   simp only [Option.some.injEq, Prod.mk.injEq] at H
   obtain ⟨rfl, rfl, rfl⟩ := H
   go_enter Tryd.func52, Tryd.ntmps52
   go_wp2_with (first | ((with_reducible refine gate_dst (N := 2) rfl ?_); refine box_event ?hg (N := 2) ?hd (cs := #[.slice A0_0 l0_0.length c0_0, .slice A0_1 l0_1.length c0_1]) (t := 25) ?hr ?_; (case hd => rfl); (case hg => rfl); (case hr => first | (go_simp; done) | (go_simp; rfl)); intro gb774 hg w6 hbox hb; have n0_ := Aside0.mk (below_step (by repeat (first | (with_reducible first | exact HB.out | apply below_alloc | apply pw_below_drewN | apply below_drew1) | exact HB.out)) hb); have n1_ := Aside0.mk (hbox); have n2_ := Aside0.mk ((by rw [hg]; exact (below_size (by repeat (first | (with_reducible first | exact HB.out | apply below_alloc | apply pw_below_drewN | apply below_drew1) | exact HB.out))) : w.heap.size ≤ gb774)); have n3_ := Aside0.mk ((by rw [hg]; exact (below_size (by repeat (first | (with_reducible first | exact HB.out | apply below_alloc | apply pw_below_drewN | apply below_drew1) | exact HB.out))) : w.heap.size ≤ gb774)); clear HB; have HB := n0_; have BK774 := n1_; have GW774 := n2_; have GE774 := n3_; clear n0_ n1_ n2_ n3_; clear hb hbox hg; have hcz7_0 : w6.cell? ⟨gb774, 0, none⟩ = some (.slice A0_0 l0_0.length c0_0) := (blk_cell BK774.out 0).trans rfl; have hcz7_1 : w6.cell? ⟨gb774, 1, none⟩ = some (.slice A0_1 l0_1.length c0_1) := (blk_cell BK774.out 1).trans rfl; have hfz7_0 := blk_frozen BK774.out 0; have hfz7_1 := blk_frozen BK774.out 1) | ((with_reducible refine gate_callee (f := 74) rfl ?_); refine goesL_ (some 13) rfl rfl Tryd.func74 (by kernel_rfl) rfl #[.agg #[.slice A0_0 l0_0.length c0_0, .slice A0_1 l0_1.length c0_1], .slice none 0 0] rfl (by (try simp only [List.map_toArray, List.map_cons, List.map_nil]); first | done | rfl | (simp only [List.length_drop, List.length_take]; rfl)) ?_; (refine (cognateref02_asked.calls k _ _ l0_0 _ _ l0_1 _ _ ([] : List Int) t775 _ ?side1 ?side2 ?side3 ?side4 ?side5 ?side6 A3.out).mono ?_); (case side1 => repeat (first | exact (Kd.C_below HR0_0.out HB.out) | (with_reducible refine Kd.C_alloc ?_ _) | (with_reducible refine Kd.C_drewN ?_ _) | (with_reducible refine Kd.C_drew ?_))); (case side2 => exact HC0_0.out); (case side3 => repeat (first | exact (Kd.C_below HR0_1.out HB.out) | (with_reducible refine Kd.C_alloc ?_ _) | (with_reducible refine Kd.C_drewN ?_ _) | (with_reducible refine Kd.C_drew ?_))); (case side4 => exact HC0_1.out); (case side5 => exact Kd.C_nil _ _); (case side6 => exact Nat.le_refl _); rintro e w8 ⟨rfl, hb⟩; refine ⟨_, rfl, ?_⟩; have n0_ := Aside0.mk (blk_below (g := gb774) (o := .cells #[.slice A0_0 l0_0.length c0_0, .slice A0_1 l0_1.length c0_1] 25 (0, 0)) (by (with_reducible repeat (first | refine blk_drewN ?_ _ | refine blk_drew ?_ | refine blk_alloc ?_ _)); exact BK774.out) hb); have n1_ := Aside0.mk (below_step (by repeat (first | (with_reducible first | exact HB.out | apply below_alloc | apply pw_below_drewN | apply below_drew1 | refine below_set ?_ GE774.out) | exact HB.out)) hb); clear BK774; clear HB; have BK774 := n0_; have HB := n1_; clear n0_ n1_; (try clear hb); (try clear hb2); (try clear hk); (try clear hi)))
   go_ret3
   exact ⟨by first | rfl | (simp [errW_none, errW_some] <;> rfl) | (simp [*, errW_none, errW_some] <;> rfl), by repeat (first | (with_reducible first | exact HB.out | apply below_alloc | apply pw_below_drewN | apply below_drew1 | refine below_set ?_ GE774.out) | exact HB.out)⟩
  ·rw [if_neg c5] at H
   have c5b0 : decide (128 < (l1.length : Int)) = false := decide_eq_false c5
   have c5b1 : decide (128 < l1.length) = false := decide_eq_false (by omega)
   clear c5
   replace H := Option.bind_eq_some_iff.mp H
   obtain ⟨t776, A90, H⟩ := H
   replace H : (if t776 = 0 then (if (l1.length : Int) = 0 then (some (0, 0, 8)) else ((cognateref02_all.f l0_0 l0_1).bind fun t777 => ((cognateref02_all.f l0_0 l0_1).bind fun t778 => (cognateref02_Least.l0 k l1 t777 t778 0 l0_0 l0_1)))) else (some (0, 0, t776))) = some (r1, r2, r3) := H
   have A9 := Aside0.mk A90
   clear A90
   by_cases c10 : t776 = 0
   ·rw [if_pos c10] at H
    have c10b0 : (t776 == 0) = true := beq_iff_eq.mpr c10
    have c10b1 : (t776 != 0) = false := bne_eq_false_iff_eq.mpr c10
    clear c10
    by_cases c11 : (l1.length : Int) = 0
    ·rw [if_pos c11] at H
     have c11b0 : ((l1.length : Int) == 0) = true := beq_iff_eq.mpr c11
     have c11b1 : ((l1.length : Int) != 0) = false := bne_eq_false_iff_eq.mpr c11
     clear c11
     simp only [Option.some.injEq, Prod.mk.injEq] at H
     obtain ⟨rfl, rfl, rfl⟩ := H
     go_enter Tryd.func52, Tryd.ntmps52
     go_wp2_with (first | ((with_reducible refine gate_dst (N := 2) rfl ?_); refine box_event ?hg (N := 2) ?hd (cs := #[.slice A0_0 l0_0.length c0_0, .slice A0_1 l0_1.length c0_1]) (t := 25) ?hr ?_; (case hd => rfl); (case hg => rfl); (case hr => first | (go_simp; done) | (go_simp; rfl)); intro gb774 hg w12 hbox hb; have n0_ := Aside0.mk (below_step (by repeat (first | (with_reducible first | exact HB.out | apply below_alloc | apply pw_below_drewN | apply below_drew1) | exact HB.out)) hb); have n1_ := Aside0.mk (hbox); have n2_ := Aside0.mk ((by rw [hg]; exact (below_size (by repeat (first | (with_reducible first | exact HB.out | apply below_alloc | apply pw_below_drewN | apply below_drew1) | exact HB.out))) : w.heap.size ≤ gb774)); have n3_ := Aside0.mk ((by rw [hg]; exact (below_size (by repeat (first | (with_reducible first | exact HB.out | apply below_alloc | apply pw_below_drewN | apply below_drew1) | exact HB.out))) : w.heap.size ≤ gb774)); clear HB; have HB := n0_; have BK774 := n1_; have GW774 := n2_; have GE774 := n3_; clear n0_ n1_ n2_ n3_; clear hb hbox hg; have hcz13_0 : w12.cell? ⟨gb774, 0, none⟩ = some (.slice A0_0 l0_0.length c0_0) := (blk_cell BK774.out 0).trans rfl; have hcz13_1 : w12.cell? ⟨gb774, 1, none⟩ = some (.slice A0_1 l0_1.length c0_1) := (blk_cell BK774.out 1).trans rfl; have hfz13_0 := blk_frozen BK774.out 0; have hfz13_1 := blk_frozen BK774.out 1) | ((with_reducible refine gate_callee (f := 74) rfl ?_); refine goesL_ (some 13) rfl rfl Tryd.func74 (by kernel_rfl) rfl #[.agg #[.slice A0_0 l0_0.length c0_0, .slice A0_1 l0_1.length c0_1], .slice none 0 0] rfl (by (try simp only [List.map_toArray, List.map_cons, List.map_nil]); first | done | rfl | (simp only [List.length_drop, List.length_take]; rfl)) ?_; (refine (cognateref02_asked.calls k _ _ l0_0 _ _ l0_1 _ _ ([] : List Int) t775 _ ?side1 ?side2 ?side3 ?side4 ?side5 ?side6 A3.out).mono ?_); (case side1 => repeat (first | exact (Kd.C_below HR0_0.out HB.out) | (with_reducible refine Kd.C_alloc ?_ _) | (with_reducible refine Kd.C_drewN ?_ _) | (with_reducible refine Kd.C_drew ?_))); (case side2 => exact HC0_0.out); (case side3 => repeat (first | exact (Kd.C_below HR0_1.out HB.out) | (with_reducible refine Kd.C_alloc ?_ _) | (with_reducible refine Kd.C_drewN ?_ _) | (with_reducible refine Kd.C_drew ?_))); (case side4 => exact HC0_1.out); (case side5 => exact Kd.C_nil _ _); (case side6 => exact Nat.le_refl _); rintro e w14 ⟨rfl, hb⟩; refine ⟨_, rfl, ?_⟩; have n0_ := Aside0.mk (blk_below (g := gb774) (o := .cells #[.slice A0_0 l0_0.length c0_0, .slice A0_1 l0_1.length c0_1] 25 (0, 0)) (by (with_reducible repeat (first | refine blk_drewN ?_ _ | refine blk_drew ?_ | refine blk_alloc ?_ _)); exact BK774.out) hb); have n1_ := Aside0.mk (below_step (by repeat (first | (with_reducible first | exact HB.out | apply below_alloc | apply pw_below_drewN | apply below_drew1 | refine below_set ?_ GE774.out) | exact HB.out)) hb); clear BK774; clear HB; have BK774 := n0_; have HB := n1_; clear n0_ n1_; (try clear hb); (try clear hb2); (try clear hk); (try clear hi); have hcz15_0 : w14.cell? ⟨gb774, 0, none⟩ = some (.slice A0_0 l0_0.length c0_0) := (blk_cell BK774.out 0).trans rfl; have hcz15_1 : w14.cell? ⟨gb774, 1, none⟩ = some (.slice A0_1 l0_1.length c0_1) := (blk_cell BK774.out 1).trans rfl; have hfz15_0 := blk_frozen BK774.out 0; have hfz15_1 := blk_frozen BK774.out 1) | ((with_reducible refine gate_callee (f := 74) rfl ?_); refine goesL_ (some 22) rfl rfl Tryd.func74 (by kernel_rfl) rfl #[.agg #[.slice A0_0 l0_0.length c0_0, .slice A0_1 l0_1.length c0_1], .slice A1 l1.length c1] rfl (by (try simp only [List.map_toArray, List.map_cons, List.map_nil]); first | done | rfl | (simp only [List.length_drop, List.length_take]; rfl)) ?_; (with_reducible refine (cognateref02_asked.calls k _ _ l0_0 _ _ l0_1 _ _ l1 t776 _ ?side1 ?side2 ?side3 ?side4 ?side5 ?side6 A9.out).mono ?_); (case side1 => repeat (first | exact (Kd.C_below HR0_0.out HB.out) | (with_reducible refine Kd.C_alloc ?_ _) | (with_reducible refine Kd.C_drewN ?_ _) | (with_reducible refine Kd.C_drew ?_))); (case side2 => exact HC0_0.out); (case side3 => repeat (first | exact (Kd.C_below HR0_1.out HB.out) | (with_reducible refine Kd.C_alloc ?_ _) | (with_reducible refine Kd.C_drewN ?_ _) | (with_reducible refine Kd.C_drew ?_))); (case side4 => exact HC0_1.out); (case side5 => repeat (first | exact (Kd.C_below HR1.out HB.out) | (with_reducible refine Kd.C_alloc ?_ _) | (with_reducible refine Kd.C_drewN ?_ _) | (with_reducible refine Kd.C_drew ?_))); (case side6 => exact HC1.out); rintro e w16 ⟨rfl, hb⟩; refine ⟨_, rfl, ?_⟩; have n0_ := Aside0.mk (blk_below (g := gb774) (o := .cells #[.slice A0_0 l0_0.length c0_0, .slice A0_1 l0_1.length c0_1] 25 (0, 0)) (by (with_reducible repeat (first | refine blk_drewN ?_ _ | refine blk_drew ?_ | refine blk_alloc ?_ _)); exact BK774.out) hb); have n1_ := Aside0.mk (below_step (by repeat (first | (with_reducible first | exact HB.out | apply below_alloc | apply pw_below_drewN | apply below_drew1 | refine below_set ?_ GE774.out) | exact HB.out)) hb); clear BK774; clear HB; have BK774 := n0_; have HB := n1_; clear n0_ n1_; (try clear hb); (try clear hb2); (try clear hk); (try clear hi)))
     go_ret3
     exact ⟨by first | rfl | (simp [errW_none, errW_some] <;> rfl) | (simp [*, errW_none, errW_some] <;> rfl), by repeat (first | (with_reducible first | exact HB.out | apply below_alloc | apply pw_below_drewN | apply below_drew1 | refine below_set ?_ GE774.out) | exact HB.out)⟩
    ·rw [if_neg c11] at H
     have c11b0 : ((l1.length : Int) == 0) = false := beq_eq_false_iff_ne.mpr c11
     have c11b1 : ((l1.length : Int) != 0) = true := bne_iff_ne.mpr c11
     have c11b2 : ¬ (l1 = []) := fun h_ => c11 (by rw [h_]; rfl)
     replace H := Option.bind_eq_some_iff.mp H
     obtain ⟨t777, A170, H⟩ := H
     replace H : ((cognateref02_all.f l0_0 l0_1).bind fun t778 => (cognateref02_Least.l0 k l1 t777 t778 0 l0_0 l0_1)) = some (r1, r2, r3) := H
     have A17 := Aside0.mk A170
     clear A170
     replace H := Option.bind_eq_some_iff.mp H
     obtain ⟨t778, A180, H⟩ := H
     replace H : (cognateref02_Least.l0 k l1 t777 t778 0 l0_0 l0_1) = some (r1, r2, r3) := H
     have A18 := Aside0.mk A180
     clear A180
     have H' := Aside0.mk H
     clear H
     go_enter Tryd.func52, Tryd.ntmps52
     go_wp2_with (first | ((with_reducible refine gate_dst (N := 2) rfl ?_); refine box_event ?hg (N := 2) ?hd (cs := #[.slice A0_0 l0_0.length c0_0, .slice A0_1 l0_1.length c0_1]) (t := 25) ?hr ?_; (case hd => rfl); (case hg => rfl); (case hr => first | (go_simp; done) | (go_simp; rfl)); intro gb774 hg w19 hbox hb; have n0_ := Aside0.mk (below_step (by repeat (first | (with_reducible first | exact HB.out | apply below_alloc | apply pw_below_drewN | apply below_drew1) | exact HB.out)) hb); have n1_ := Aside0.mk (hbox); have n2_ := Aside0.mk ((by rw [hg]; exact (below_size (by repeat (first | (with_reducible first | exact HB.out | apply below_alloc | apply pw_below_drewN | apply below_drew1) | exact HB.out))) : w.heap.size ≤ gb774)); have n3_ := Aside0.mk ((by rw [hg]; exact (below_size (by repeat (first | (with_reducible first | exact HB.out | apply below_alloc | apply pw_below_drewN | apply below_drew1) | exact HB.out))) : w.heap.size ≤ gb774)); clear HB; have HB := n0_; have BK774 := n1_; have GW774 := n2_; have GE774 := n3_; clear n0_ n1_ n2_ n3_; clear hb hbox hg; have hcz20_0 : w19.cell? ⟨gb774, 0, none⟩ = some (.slice A0_0 l0_0.length c0_0) := (blk_cell BK774.out 0).trans rfl; have hcz20_1 : w19.cell? ⟨gb774, 1, none⟩ = some (.slice A0_1 l0_1.length c0_1) := (blk_cell BK774.out 1).trans rfl; have hfz20_0 := blk_frozen BK774.out 0; have hfz20_1 := blk_frozen BK774.out 1) | ((with_reducible refine gate_callee (f := 74) rfl ?_); refine goesL_ (some 13) rfl rfl Tryd.func74 (by kernel_rfl) rfl #[.agg #[.slice A0_0 l0_0.length c0_0, .slice A0_1 l0_1.length c0_1], .slice none 0 0] rfl (by (try simp only [List.map_toArray, List.map_cons, List.map_nil]); first | done | rfl | (simp only [List.length_drop, List.length_take]; rfl)) ?_; (refine (cognateref02_asked.calls k _ _ l0_0 _ _ l0_1 _ _ ([] : List Int) t775 _ ?side1 ?side2 ?side3 ?side4 ?side5 ?side6 A3.out).mono ?_); (case side1 => repeat (first | exact (Kd.C_below HR0_0.out HB.out) | (with_reducible refine Kd.C_alloc ?_ _) | (with_reducible refine Kd.C_drewN ?_ _) | (with_reducible refine Kd.C_drew ?_))); (case side2 => exact HC0_0.out); (case side3 => repeat (first | exact (Kd.C_below HR0_1.out HB.out) | (with_reducible refine Kd.C_alloc ?_ _) | (with_reducible refine Kd.C_drewN ?_ _) | (with_reducible refine Kd.C_drew ?_))); (case side4 => exact HC0_1.out); (case side5 => exact Kd.C_nil _ _); (case side6 => exact Nat.le_refl _); rintro e w21 ⟨rfl, hb⟩; refine ⟨_, rfl, ?_⟩; have n0_ := Aside0.mk (blk_below (g := gb774) (o := .cells #[.slice A0_0 l0_0.length c0_0, .slice A0_1 l0_1.length c0_1] 25 (0, 0)) (by (with_reducible repeat (first | refine blk_drewN ?_ _ | refine blk_drew ?_ | refine blk_alloc ?_ _)); exact BK774.out) hb); have n1_ := Aside0.mk (below_step (by repeat (first | (with_reducible first | exact HB.out | apply below_alloc | apply pw_below_drewN | apply below_drew1 | refine below_set ?_ GE774.out) | exact HB.out)) hb); clear BK774; clear HB; have BK774 := n0_; have HB := n1_; clear n0_ n1_; (try clear hb); (try clear hb2); (try clear hk); (try clear hi); have hcz22_0 : w21.cell? ⟨gb774, 0, none⟩ = some (.slice A0_0 l0_0.length c0_0) := (blk_cell BK774.out 0).trans rfl; have hcz22_1 : w21.cell? ⟨gb774, 1, none⟩ = some (.slice A0_1 l0_1.length c0_1) := (blk_cell BK774.out 1).trans rfl; have hfz22_0 := blk_frozen BK774.out 0; have hfz22_1 := blk_frozen BK774.out 1) | ((with_reducible refine gate_callee (f := 74) rfl ?_); refine goesL_ (some 22) rfl rfl Tryd.func74 (by kernel_rfl) rfl #[.agg #[.slice A0_0 l0_0.length c0_0, .slice A0_1 l0_1.length c0_1], .slice A1 l1.length c1] rfl (by (try simp only [List.map_toArray, List.map_cons, List.map_nil]); first | done | rfl | (simp only [List.length_drop, List.length_take]; rfl)) ?_; (with_reducible refine (cognateref02_asked.calls k _ _ l0_0 _ _ l0_1 _ _ l1 t776 _ ?side1 ?side2 ?side3 ?side4 ?side5 ?side6 A9.out).mono ?_); (case side1 => repeat (first | exact (Kd.C_below HR0_0.out HB.out) | (with_reducible refine Kd.C_alloc ?_ _) | (with_reducible refine Kd.C_drewN ?_ _) | (with_reducible refine Kd.C_drew ?_))); (case side2 => exact HC0_0.out); (case side3 => repeat (first | exact (Kd.C_below HR0_1.out HB.out) | (with_reducible refine Kd.C_alloc ?_ _) | (with_reducible refine Kd.C_drewN ?_ _) | (with_reducible refine Kd.C_drew ?_))); (case side4 => exact HC0_1.out); (case side5 => repeat (first | exact (Kd.C_below HR1.out HB.out) | (with_reducible refine Kd.C_alloc ?_ _) | (with_reducible refine Kd.C_drewN ?_ _) | (with_reducible refine Kd.C_drew ?_))); (case side6 => exact HC1.out); rintro e w23 ⟨rfl, hb⟩; refine ⟨_, rfl, ?_⟩; have n0_ := Aside0.mk (blk_below (g := gb774) (o := .cells #[.slice A0_0 l0_0.length c0_0, .slice A0_1 l0_1.length c0_1] 25 (0, 0)) (by (with_reducible repeat (first | refine blk_drewN ?_ _ | refine blk_drew ?_ | refine blk_alloc ?_ _)); exact BK774.out) hb); have n1_ := Aside0.mk (below_step (by repeat (first | (with_reducible first | exact HB.out | apply below_alloc | apply pw_below_drewN | apply below_drew1 | refine below_set ?_ GE774.out) | exact HB.out)) hb); clear BK774; clear HB; have BK774 := n0_; have HB := n1_; clear n0_ n1_; (try clear hb); (try clear hb2); (try clear hk); (try clear hi); have hcz24_0 : w23.cell? ⟨gb774, 0, none⟩ = some (.slice A0_0 l0_0.length c0_0) := (blk_cell BK774.out 0).trans rfl; have hcz24_1 : w23.cell? ⟨gb774, 1, none⟩ = some (.slice A0_1 l0_1.length c0_1) := (blk_cell BK774.out 1).trans rfl; have hfz24_0 := blk_frozen BK774.out 0; have hfz24_1 := blk_frozen BK774.out 1) | ((with_reducible refine gate_callee (f := 92) rfl ?_); refine goesL_ (some 30) rfl rfl Tryd.func92 (by kernel_rfl) rfl #[.agg #[.slice A0_0 l0_0.length c0_0, .slice A0_1 l0_1.length c0_1]] rfl (by (try simp only [List.map_toArray, List.map_cons, List.map_nil]); first | done | rfl | (simp only [List.length_drop, List.length_take]; rfl)) ?_; (with_reducible refine (cognateref02_all.calls _ _ l0_0 _ _ l0_1 t777 _ ?side1 ?side2 ?side3 ?side4 A17.out).mono ?_); (case side1 => repeat (first | exact (Kd.C_below HR0_0.out HB.out) | (with_reducible refine Kd.C_alloc ?_ _) | (with_reducible refine Kd.C_drewN ?_ _) | (with_reducible refine Kd.C_drew ?_))); (case side2 => exact HC0_0.out); (case side3 => repeat (first | exact (Kd.C_below HR0_1.out HB.out) | (with_reducible refine Kd.C_alloc ?_ _) | (with_reducible refine Kd.C_drewN ?_ _) | (with_reducible refine Kd.C_drew ?_))); (case side4 => exact HC0_1.out); rintro e w25 ⟨rfl, hb⟩; refine ⟨_, rfl, ?_⟩; have n0_ := Aside0.mk (blk_below (g := gb774) (o := .cells #[.slice A0_0 l0_0.length c0_0, .slice A0_1 l0_1.length c0_1] 25 (0, 0)) (by (with_reducible repeat (first | refine blk_drewN ?_ _ | refine blk_drew ?_ | refine blk_alloc ?_ _)); exact BK774.out) hb); have n1_ := Aside0.mk (below_step (by repeat (first | (with_reducible first | exact HB.out | apply below_alloc | apply pw_below_drewN | apply below_drew1 | refine below_set ?_ GE774.out) | exact HB.out)) hb); clear BK774; clear HB; have BK774 := n0_; have HB := n1_; clear n0_ n1_; (try clear hb); (try clear hb2); (try clear hk); (try clear hi); have hcz26_0 : w25.cell? ⟨gb774, 0, none⟩ = some (.slice A0_0 l0_0.length c0_0) := (blk_cell BK774.out 0).trans rfl; have hcz26_1 : w25.cell? ⟨gb774, 1, none⟩ = some (.slice A0_1 l0_1.length c0_1) := (blk_cell BK774.out 1).trans rfl; have hfz26_0 := blk_frozen BK774.out 0; have hfz26_1 := blk_frozen BK774.out 1) | ((with_reducible refine gate_callee (f := 92) rfl ?_); refine goesL_ (some 32) rfl rfl Tryd.func92 (by kernel_rfl) rfl #[.agg #[.slice A0_0 l0_0.length c0_0, .slice A0_1 l0_1.length c0_1]] rfl (by (try simp only [List.map_toArray, List.map_cons, List.map_nil]); first | done | rfl | (simp only [List.length_drop, List.length_take]; rfl)) ?_; (with_reducible refine (cognateref02_all.calls _ _ l0_0 _ _ l0_1 t778 _ ?side1 ?side2 ?side3 ?side4 A18.out).mono ?_); (case side1 => repeat (first | exact (Kd.C_below HR0_0.out HB.out) | (with_reducible refine Kd.C_alloc ?_ _) | (with_reducible refine Kd.C_drewN ?_ _) | (with_reducible refine Kd.C_drew ?_))); (case side2 => exact HC0_0.out); (case side3 => repeat (first | exact (Kd.C_below HR0_1.out HB.out) | (with_reducible refine Kd.C_alloc ?_ _) | (with_reducible refine Kd.C_drewN ?_ _) | (with_reducible refine Kd.C_drew ?_))); (case side4 => exact HC0_1.out); rintro e w27 ⟨rfl, hb⟩; refine ⟨_, rfl, ?_⟩; have n0_ := Aside0.mk (blk_below (g := gb774) (o := .cells #[.slice A0_0 l0_0.length c0_0, .slice A0_1 l0_1.length c0_1] 25 (0, 0)) (by (with_reducible repeat (first | refine blk_drewN ?_ _ | refine blk_drew ?_ | refine blk_alloc ?_ _)); exact BK774.out) hb); have n1_ := Aside0.mk (below_step (by repeat (first | (with_reducible first | exact HB.out | apply below_alloc | apply pw_below_drewN | apply below_drew1 | refine below_set ?_ GE774.out) | exact HB.out)) hb); clear BK774; clear HB; have BK774 := n0_; have HB := n1_; clear n0_ n1_; (try clear hb); (try clear hb2); (try clear hk); (try clear hi)))
     go_loopg [8, 9, 10] k (fun kq v8 v9 v10 w' => ∃ (x8_1 : Int) (x9_1 : Int) (x10_1 : Int), v8 = .int .u32 x8_1 ∧ v9 = .int .u32 x9_1 ∧ v10 = .int .i64 x10_1 ∧ Aside0 (cognateref02_Least.l0 kq l1 x8_1 x9_1 x10_1 l0_0 l0_1 = some (r1, r2, r3)) ∧ Aside0 (kq ≤ k) ∧ Aside0 (w'.heap[gb774]? = some (.cells #[(.slice A0_0 l0_0.length c0_0), (.slice A0_1 l0_1.length c0_1)] 25 (0, 0))) ∧ Aside0 (Below w.heap.size w w'))
     case atStart => exact ⟨(t777), (t778), (0), (by first | rfl | (simp; done) | (simp [*]; done)), (by first | rfl | (simp; done) | (simp [*]; done)), (by first | rfl | (simp; done) | (simp [*]; done)), H', ⟨Nat.le_refl _⟩, ⟨by (with_reducible repeat (first | refine blk_drewN ?_ _ | refine blk_drew ?_ | refine blk_alloc ?_ _)); exact BK774.out⟩, ⟨by repeat (first | (with_reducible first | exact HB.out | apply below_alloc | apply pw_below_drewN | apply below_drew1 | refine below_set ?_ GE774.out) | exact HB.out)⟩⟩
     case round =>
      clear H'
      try clear c1
      try clear p2
      try clear c4
      try clear c4b0
      try clear c4b1
      try clear c5
      try clear c5b0
      try clear c5b1
      try clear c7
      try clear c9
      try clear c10
      try clear c10b0
      try clear c10b1
      try clear c11
      try clear c11b0
      try clear c11b1
      try clear c11b2
      try clear hcz13_0
      try clear hcz13_1
      try clear hcz15_0
      try clear hcz15_1
      try clear hcz20_0
      try clear hcz20_1
      try clear hcz22_0
      try clear hcz22_1
      try clear hcz24_0
      try clear hcz24_1
      try clear hcz26_0
      try clear hcz26_1
      try clear hcz7_0
      try clear hcz7_1
      try clear hfz13_0
      try clear hfz13_1
      try clear hfz15_0
      try clear hfz15_1
      try clear hfz20_0
      try clear hfz20_1
      try clear hfz22_0
      try clear hfz22_1
      try clear hfz24_0
      try clear hfz24_1
      try clear hfz26_0
      try clear hfz26_1
      try clear hfz7_0
      try clear hfz7_1
      obtain ⟨x8_1, x9_1, x10_1, rfl, rfl, rfl, HA, HK1, BK774, HB⟩ := hrel
      cases gk with
      | zero => exact absurd HA.out (by simp [cognateref02_Least.l0])
      | succ k1 =>
       have H := HA.out
       clear HA
       simp only [cognateref02_Least.l0] at H
       by_cases c28 : x10_1 < (l1.length : Int)
       ·rw [if_pos c28] at H
        have c28b0 : decide (x10_1 < (l1.length : Int)) = true := decide_eq_true c28
        clear c28
        by_cases c29 : 0 ≤ x10_1
        ·rw [if_pos c29] at H
         have c29b0 : decide (0 ≤ x10_1) = true := decide_eq_true c29
         clear c29
         replace H := Option.bind_eq_some_iff.mp H
         obtain ⟨t780, A300, H⟩ := H
         replace H : (if 0 ≤ t780 then (if t780 < (l0_1.length : Int) then (cognateref02_Least.l0 k1 l1 (Go.bits .and .u32 x8_1 ((rd_T53 l0_1 t780).f1)) (Go.bits .and .u32 x9_1 ((rd_T53 l0_1 t780).f2)) (wrap64 (x10_1 + 1)) l0_0 l0_1) else (none)) else (none)) = some (r1, r2, r3) := H
         have A30 := Aside0.mk A300
         clear A300
         by_cases c31 : 0 ≤ t780
         ·rw [if_pos c31] at H
          have c31b0 : decide (0 ≤ t780) = true := decide_eq_true c31
          clear c31
          by_cases c32 : t780 < (l0_1.length : Int)
          ·rw [if_pos c32] at H
           have c32b0 : decide (t780 < (l0_1.length : Int)) = true := decide_eq_true c32
           clear c32
           have H' := Aside0.mk H
           clear H
           try go_wp2
           have n0_ := Aside0.mk (blk_drew BK774.out)
           have n1_ := Aside0.mk (below_drew1 HB.out)
           clear BK774
           clear HB
           have BK774 := n0_
           have HB := n1_
           clear n0_ n1_
           have p779 : 0 ≤ (x10_1 : Int) := of_decide_eq_true (by first | (with_reducible assumption) | assumption)
           have q779 : x10_1 < (l1.length : Int) := of_decide_eq_true (by first | (with_reducible assumption) | assumption)
           obtain ⟨ad779, e779, hx779_0⟩ := Kd.at_int HR1.out x10_1 p779 q779
           have hw779_0 := hx779_0
           cases e779
           replace hx779_0 := (HB.out.cell (World.block_lt_of_cell? w _ hx779_0)).trans hx779_0
           replace p779 := eq_true p779
           replace q779 := eq_true q779
           have p781 : 0 ≤ (t780 : Int) := of_decide_eq_true (by first | (with_reducible assumption) | assumption)
           have q781 : t780 < (l0_1.length : Int) := of_decide_eq_true (by first | (with_reducible assumption) | assumption)
           obtain ⟨ad781, e781, hx781_0, hx781_1, hx781_2⟩ := at_T53 HR0_1.out t780 p781 q781
           have hw781_2 := hx781_2
           have hw781_1 := hx781_1
           have hw781_0 := hx781_0
           cases e781
           replace hx781_0 := (HB.out.cell (World.block_lt_of_cell? w _ hx781_0)).trans hx781_0
           replace hx781_1 := (HB.out.cell (World.block_lt_of_cell? w _ hx781_1)).trans hx781_1
           replace hx781_2 := (HB.out.cell (World.block_lt_of_cell? w _ hx781_2)).trans hx781_2
           replace p781 := eq_true p781
           replace q781 := eq_true q781
           refine start_ (n := 12) (S := fun w' => w'.cell? ⟨gb774, 0, none⟩ = some (.slice A0_0 l0_0.length c0_0) ∧ w'.cell? ⟨gb774, 1, none⟩ = some (.slice (some ad781) l0_1.length c0_1) ∧ w'.cell? (ad779.add (x10_1).toNat) = some (.int .i32 (rd l1 x10_1)) ∧ w'.cell? (ad781.add ((t780).toNat * 3)) = some (.int .i32 ((rd_T53 l0_1 t780).f0)) ∧ w'.cell? ⟨(ad781.add ((t780).toNat * 3)).block, (ad781.add ((t780).toNat * 3)).off + 1, none⟩ = some (.int .u32 ((rd_T53 l0_1 t780).f1)) ∧ w'.cell? ⟨(ad781.add ((t780).toNat * 3)).block, (ad781.add ((t780).toNat * 3)).off + 2, none⟩ = some (.int .u32 ((rd_T53 l0_1 t780).f2))) (ds := []) #[false, false, false, false, false, false, false, false, false, false, false, false] (by kernel_rfl) rfl rfl ⟨(blk_cell BK774.out 0).trans rfl, (blk_cell BK774.out 1).trans rfl, ((HB.out.cell (World.block_lt_of_cell? w _ hw779_0)).trans hw779_0), ((HB.out.cell (World.block_lt_of_cell? w _ hw781_0)).trans hw781_0), ((HB.out.cell (World.block_lt_of_cell? w _ hw781_1)).trans hw781_1), ((HB.out.cell (World.block_lt_of_cell? w _ hw781_2)).trans hw781_2)⟩ (fun hHeld => ?_); refine with_tabW cognateref02_Least.tab16 cognateref02_Least.bits16 (fun HT_ HW_ => ?_)
           generalize wr.drew = w33 at BK774 HB hx779_0 hx781_0 hx781_1 hx781_2 hHeld ⊢
           refine pure_ (i := 0) (N := some 39) (v := ?_) (a' := ?_) #[true, false, false, false, false, false, false, false, false, false, false, false] rfl rfl (any_of HT_.out (by kernel_rfl)) (fun _ _ _ h => h) (Or.inl ⟨by rfl, ?_⟩) ?_ ?_
           rotate_left
           ·intro w'
            go_simp
            with_reducible rfl
           rotate_left
           ·simp only [Act.put, List.setIfInBounds_toArray, List.set_cons_zero, List.set_cons_succ, i64_w, i32_w]
            rfl
           refine pure_ (i := 3) (N := some 42) (v := ?_) (a' := ?_) #[true, false, false, true, false, false, false, false, false, false, false, false] rfl rfl (any_of HT_.out (by kernel_rfl)) (fun _ _ _ h => h) (Or.inl ⟨by rfl, ?_⟩) ?_ ?_
           rotate_left
           ·intro w'
            go_simp
            with_reducible rfl
           rotate_left
           ·simp only [Act.put, List.setIfInBounds_toArray, List.set_cons_zero, List.set_cons_succ, i64_w, i32_w]
            rfl
           refine pure_ (i := 4) (N := some 43) (v := ?_) (a' := ?_) #[true, false, false, true, true, false, false, false, false, false, false, false] rfl rfl (any_of HT_.out (by kernel_rfl)) (fun _ _ _ h => h) (Or.inl ⟨by rfl, ?_⟩) ?_ ?_
           rotate_left
           ·intro w'
            go_simp
            with_reducible rfl
           rotate_left
           ·simp only [Act.put, List.setIfInBounds_toArray, List.set_cons_zero, List.set_cons_succ, i64_w, i32_w]
            rfl
           refine pure_ (i := 5) (N := some 44) (v := ?_) (a' := ?_) #[true, false, false, true, true, true, false, false, false, false, false, false] rfl rfl (any_of HT_.out (by kernel_rfl)) (fun _ _ _ h => h) (Or.inl ⟨by rfl, ?_⟩) ?_ ?_
           rotate_left
           ·intro w'
            go_simp
            with_reducible rfl
           rotate_left
           ·simp only [Act.put, List.setIfInBounds_toArray, List.set_cons_zero, List.set_cons_succ, i64_w, i32_w]
            rfl
           refine take_ (i := 1) (N := some 40) (v := ?_) (a' := ?_) #[true, true, false, true, true, true, false, false, false, false, false, false] rfl rfl (take_ofW HT_.out HW_.out (by kernel_rfl)) (fun _ _ _ h => h) (Or.inl ⟨by rfl, ?_⟩) hHeld ?_ ?_
           rotate_left
           ·rintro w' ⟨s0, s1, s2, s3, s4, s5⟩
            go_simp
            with_reducible rfl
           rotate_left
           ·simp only [Act.put, List.setIfInBounds_toArray, List.set_cons_zero, List.set_cons_succ, i64_w, i32_w]
            rfl
           refine take_ (i := 2) (N := some 41) (v := ?_) (a' := ?_) #[true, true, true, true, true, true, false, false, false, false, false, false] rfl rfl (take_ofW HT_.out HW_.out (by kernel_rfl)) (fun _ _ _ h => h) (Or.inl ⟨by rfl, ?_⟩) hHeld ?_ ?_
           rotate_left
           ·rintro w' ⟨s0, s1, s2, s3, s4, s5⟩
            go_simp
            with_reducible rfl
           rotate_left
           ·simp only [Act.put, List.setIfInBounds_toArray, List.set_cons_zero, List.set_cons_succ, i64_w, i32_w]
            rfl
           refine take_ (i := 6) (N := some 45) (v := ?_) (a' := ?_) #[true, true, true, true, true, true, true, false, false, false, false, false] rfl rfl (take_ofW HT_.out HW_.out (by kernel_rfl)) (fun _ _ _ h => h) (Or.inl ⟨by rfl, ?_⟩) hHeld ?_ ?_
           rotate_left
           ·rintro w' ⟨s0, s1, s2, s3, s4, s5⟩
            go_simp
            with_reducible rfl
           rotate_left
           ·simp only [Act.put, List.setIfInBounds_toArray, List.set_cons_zero, List.set_cons_succ, i64_w, i32_w]
            rfl
           refine join_ (σ := Nat) 1 #[true, true, true, true, true, true, true, true, true, true, true, false] (fun s_ => [(46, .int .i64 t780), (11, .pointer (some ⟨s_, 0, none⟩)), (47, .pointer (some (ad781.add ((t780).toNat * 3)))), (48, .agg #[.int .i32 ((rd_T53 l0_1 t780).f0), .int .u32 ((rd_T53 l0_1 t780).f1), .int .u32 ((rd_T53 l0_1 t780).f2)])]) (fun s_ w' => (w'.cell? ⟨gb774, 0, none⟩ = some (.slice A0_0 l0_0.length c0_0) ∧ w'.cell? ⟨gb774, 1, none⟩ = some (.slice (some ad781) l0_1.length c0_1) ∧ w'.cell? (ad779.add (x10_1).toNat) = some (.int .i32 (rd l1 x10_1)) ∧ w'.cell? (ad781.add ((t780).toNat * 3)) = some (.int .i32 ((rd_T53 l0_1 t780).f0)) ∧ w'.cell? ⟨(ad781.add ((t780).toNat * 3)).block, (ad781.add ((t780).toNat * 3)).off + 1, none⟩ = some (.int .u32 ((rd_T53 l0_1 t780).f1)) ∧ w'.cell? ⟨(ad781.add ((t780).toNat * 3)).block, (ad781.add ((t780).toNat * 3)).off + 2, none⟩ = some (.int .u32 ((rd_T53 l0_1 t780).f2))) ∧ (w'.heap[gb774]? = some (.cells #[.slice A0_0 l0_0.length c0_0, .slice (some ad781) l0_1.length c0_1] 25 (0, 0))) ∧ (w'.heap[s_]? = some (.cells #[.int .i32 0, .int .u32 0, .int .u32 0] 53 (0, 0))) ∧ (w.heap.size ≤ s_) ∧ (w.heap.size ≤ s_) ∧ (gb774 ≠ s_) ∧ (s_ ≠ gb774) ∧ (Below w.heap.size w w')) ?_ ?_
           rotate_left
           ·intro hCont
            refine two_ (i := 7) (j := 10) (Ni := some 46) (Nj := some 11) #[true, true, true, true, true, true, true, true, false, false, false, false] #[true, true, true, true, true, true, true, false, false, false, true, false] rfl rfl rfl rfl (two_of HT_.out (by kernel_rfl)) (by decide) (by decide) (fun K hK => ?_) (fun K hK => ?_)
            ·skip
             refine goes_ Tryd.func75 (by kernel_rfl) rfl #[.agg #[.slice A0_0 l0_0.length c0_0, .slice (some ad781) l0_1.length c0_1], .int .i32 (rd l1 x10_1)] (by rfl) rfl rfl (by (try simp only [List.map_toArray, List.map_cons, List.map_nil]); first | done | rfl | (simp only [List.length_drop, List.length_take]; rfl)) ?_
             with_reducible refine (cognateref02_Find.calls k1 _ _ l0_0 _ _ l0_1 (rd l1 x10_1) t780 _ ?side1 ?side2 ?side3 ?side4 A30.out).mono ?_
             (case side1 => repeat (first | exact (Kd.C_below HR0_0.out HB.out) | (with_reducible refine Kd.C_alloc ?_ _) | (with_reducible refine Kd.C_drewN ?_ _) | (with_reducible refine Kd.C_drew ?_)))
             (case side2 => exact HC0_0.out)
             (case side3 => repeat (first | exact (Kd.C_below HR0_1.out HB.out) | (with_reducible refine Kd.C_alloc ?_ _) | (with_reducible refine Kd.C_drewN ?_ _) | (with_reducible refine Kd.C_drew ?_)))
             (case side4 => exact HC0_1.out)
             rintro e w34 ⟨rfl, hb⟩
             refine ⟨_, rfl, ?_⟩
             have n0_ := Aside0.mk (blk_below (g := gb774) (o := .cells #[.slice A0_0 l0_0.length c0_0, .slice (some ad781) l0_1.length c0_1] 25 (0, 0)) (by (with_reducible repeat (first | refine blk_drewN ?_ _ | refine blk_drew ?_ | refine blk_alloc ?_ _)); exact BK774.out) hb)
             have n1_ := Aside0.mk (below_step (by repeat (first | (with_reducible first | exact HB.out | apply below_alloc | apply pw_below_drewN | apply below_drew1 | refine below_set ?_ GE774.out) | exact HB.out)) hb)
             clear BK774
             clear HB
             have BK774 := n0_
             have HB := n1_
             clear n0_ n1_
             (try clear hb)
             (try clear hb2)
             (try clear hk)
             (try clear hi)
             refine hK.out _ _ ⟨(blk_cell BK774.out 0).trans rfl, (blk_cell BK774.out 1).trans rfl, ((HB.out.cell (World.block_lt_of_cell? w _ hw779_0)).trans hw779_0), ((HB.out.cell (World.block_lt_of_cell? w _ hw781_0)).trans hw781_0), ((HB.out.cell (World.block_lt_of_cell? w _ hw781_1)).trans hw781_1), ((HB.out.cell (World.block_lt_of_cell? w _ hw781_2)).trans hw781_2)⟩ (fun hHeld => ?_)
             clear hK K
             refine norm_ (a' := ?_) ?_ ?_
             rotate_left
             ·show Act.put _ (some 46) _ = _
              simp only [Act.put, List.setIfInBounds_toArray, List.set_cons_zero, List.set_cons_succ, i64_w, i32_w]
              rfl
             refine pure_ (i := 8) (N := some 47) (v := ?_) (a' := ?_) #[true, true, true, true, true, true, true, true, true, false, false, false] rfl rfl (any_of HT_.out (by kernel_rfl)) (fun _ _ _ h => h) (Or.inl ⟨by rfl, ?_⟩) ?_ ?_
             rotate_left
             ·intro w'
              go_simp
              with_reducible rfl
             rotate_left
             ·simp only [Act.put, List.setIfInBounds_toArray, List.set_cons_zero, List.set_cons_succ, i64_w, i32_w]
              rfl
             refine take_ (i := 9) (N := some 48) (v := ?_) (a' := ?_) #[true, true, true, true, true, true, true, true, true, true, false, false] rfl rfl (take_ofW HT_.out HW_.out (by kernel_rfl)) (fun _ _ _ h => h) (Or.inl ⟨by rfl, ?_⟩) hHeld ?_ ?_
             rotate_left
             ·rintro w' ⟨s0, s1, s2, s3, s4, s5⟩
              go_simp
              with_reducible rfl
             rotate_left
             ·simp only [Act.put, List.setIfInBounds_toArray, List.set_cons_zero, List.set_cons_succ, i64_w, i32_w]
              rfl
             refine one_ (i := 10) (N := some 11) #[true, true, true, true, true, true, true, true, true, true, true, false] rfl rfl (one_of HT_.out (by kernel_rfl)) (by decide) (fun K hK => ?_)
             refine box_step ?hg (N := 11) ?hd (cs := #[.int .i32 0, .int .u32 0, .int .u32 0]) (t := 53) ?hr ?_; (case hd => rfl); (case hg => rfl); (case hr => first | (go_simp; done) | (go_simp; rfl))
             intro gb782 hg w35 hbox hb
             have n0_ := Aside0.mk (blk_below (g := gb774) (o := .cells #[.slice A0_0 l0_0.length c0_0, .slice (some ad781) l0_1.length c0_1] 25 (0, 0)) (by (with_reducible repeat (first | refine blk_drewN ?_ _ | refine blk_drew ?_ | refine blk_alloc ?_ _)); exact BK774.out) hb)
             have n1_ := Aside0.mk (below_step (by repeat (first | (with_reducible first | exact HB.out | apply below_alloc | apply pw_below_drewN | apply below_drew1 | refine below_set ?_ GE774.out) | exact HB.out)) hb)
             have n2_ := Aside0.mk (hbox)
             have n3_ := Aside0.mk ((by rw [hg]; exact (below_size (by repeat (first | (with_reducible first | exact HB.out | apply below_alloc | apply pw_below_drewN | apply below_drew1 | refine below_set ?_ GE774.out) | exact HB.out))) : w.heap.size ≤ gb782))
             have n4_ := Aside0.mk ((by rw [hg]; exact (below_size (by repeat (first | (with_reducible first | exact HB.out | apply below_alloc | apply pw_below_drewN | apply below_drew1 | refine below_set ?_ GE774.out) | exact HB.out))) : w.heap.size ≤ gb782))
             have n5_ := Aside0.mk ((by rw [hg]; exact Nat.ne_of_lt (blk_lt (g := gb774) (o := .cells #[.slice A0_0 l0_0.length c0_0, .slice (some ad781) l0_1.length c0_1] 25 (0, 0)) (by (with_reducible repeat (first | refine blk_drewN ?_ _ | refine blk_drew ?_ | refine blk_alloc ?_ _)); exact BK774.out)) : gb774 ≠ gb782))
             have n6_ := Aside0.mk ((by rw [hg]; exact Nat.ne_of_gt (blk_lt (g := gb774) (o := .cells #[.slice A0_0 l0_0.length c0_0, .slice (some ad781) l0_1.length c0_1] 25 (0, 0)) (by (with_reducible repeat (first | refine blk_drewN ?_ _ | refine blk_drew ?_ | refine blk_alloc ?_ _)); exact BK774.out)) : gb782 ≠ gb774))
             clear BK774
             clear HB
             have BK774 := n0_
             have HB := n1_
             have BK782 := n2_
             have GW782 := n3_
             have GE782 := n4_
             have NB774_782 := n5_
             have NB782_774 := n6_
             clear n0_ n1_ n2_ n3_ n4_ n5_ n6_
             clear hb hbox hg
             refine hK.out _ _ ⟨(blk_cell BK774.out 0).trans rfl, (blk_cell BK774.out 1).trans rfl, ((HB.out.cell (World.block_lt_of_cell? w _ hw779_0)).trans hw779_0), ((HB.out.cell (World.block_lt_of_cell? w _ hw781_0)).trans hw781_0), ((HB.out.cell (World.block_lt_of_cell? w _ hw781_1)).trans hw781_1), ((HB.out.cell (World.block_lt_of_cell? w _ hw781_2)).trans hw781_2)⟩ (fun hHeld => ?_)
             clear hK K
             refine norm_ (a' := ?_) ?_ ?_
             rotate_left
             ·show Act.put _ (some 11) _ = _
              simp only [Act.put, List.setIfInBounds_toArray, List.set_cons_zero, List.set_cons_succ, i64_w, i32_w]
              rfl
             exact norm_ (by simp only [putAll, Act.put, List.setIfInBounds_toArray, List.set_cons_zero, List.set_cons_succ]) (hCont (gb782) _ ⟨hHeld, (by (with_reducible repeat (first | refine blk_drewN ?_ _ | refine blk_drew ?_ | refine blk_alloc ?_ _)); exact BK774.out), (by (with_reducible repeat (first | refine blk_drewN ?_ _ | refine blk_drew ?_ | refine blk_alloc ?_ _)); exact BK782.out), GW782.out, GE782.out, NB774_782.out, NB782_774.out, (by repeat (first | (with_reducible first | exact HB.out | apply below_alloc | apply pw_below_drewN | apply below_drew1 | refine below_set ?_ GE774.out | refine below_set ?_ GE782.out) | exact HB.out))⟩)
            ·skip
             refine box_step ?hg (N := 11) ?hd (cs := #[.int .i32 0, .int .u32 0, .int .u32 0]) (t := 53) ?hr ?_; (case hd => rfl); (case hg => rfl); (case hr => first | (go_simp; done) | (go_simp; rfl))
             intro gb782 hg w34 hbox hb
             have n0_ := Aside0.mk (blk_below (g := gb774) (o := .cells #[.slice A0_0 l0_0.length c0_0, .slice (some ad781) l0_1.length c0_1] 25 (0, 0)) (by (with_reducible repeat (first | refine blk_drewN ?_ _ | refine blk_drew ?_ | refine blk_alloc ?_ _)); exact BK774.out) hb)
             have n1_ := Aside0.mk (below_step (by repeat (first | (with_reducible first | exact HB.out | apply below_alloc | apply pw_below_drewN | apply below_drew1 | refine below_set ?_ GE774.out) | exact HB.out)) hb)
             have n2_ := Aside0.mk (hbox)
             have n3_ := Aside0.mk ((by rw [hg]; exact (below_size (by repeat (first | (with_reducible first | exact HB.out | apply below_alloc | apply pw_below_drewN | apply below_drew1 | refine below_set ?_ GE774.out) | exact HB.out))) : w.heap.size ≤ gb782))
             have n4_ := Aside0.mk ((by rw [hg]; exact (below_size (by repeat (first | (with_reducible first | exact HB.out | apply below_alloc | apply pw_below_drewN | apply below_drew1 | refine below_set ?_ GE774.out) | exact HB.out))) : w.heap.size ≤ gb782))
             have n5_ := Aside0.mk ((by rw [hg]; exact Nat.ne_of_lt (blk_lt (g := gb774) (o := .cells #[.slice A0_0 l0_0.length c0_0, .slice (some ad781) l0_1.length c0_1] 25 (0, 0)) (by (with_reducible repeat (first | refine blk_drewN ?_ _ | refine blk_drew ?_ | refine blk_alloc ?_ _)); exact BK774.out)) : gb774 ≠ gb782))
             have n6_ := Aside0.mk ((by rw [hg]; exact Nat.ne_of_gt (blk_lt (g := gb774) (o := .cells #[.slice A0_0 l0_0.length c0_0, .slice (some ad781) l0_1.length c0_1] 25 (0, 0)) (by (with_reducible repeat (first | refine blk_drewN ?_ _ | refine blk_drew ?_ | refine blk_alloc ?_ _)); exact BK774.out)) : gb782 ≠ gb774))
             clear BK774
             clear HB
             have BK774 := n0_
             have HB := n1_
             have BK782 := n2_
             have GW782 := n3_
             have GE782 := n4_
             have NB774_782 := n5_
             have NB782_774 := n6_
             clear n0_ n1_ n2_ n3_ n4_ n5_ n6_
             clear hb hbox hg
             refine hK.out _ _ ⟨(blk_cell BK774.out 0).trans rfl, (blk_cell BK774.out 1).trans rfl, ((HB.out.cell (World.block_lt_of_cell? w _ hw779_0)).trans hw779_0), ((HB.out.cell (World.block_lt_of_cell? w _ hw781_0)).trans hw781_0), ((HB.out.cell (World.block_lt_of_cell? w _ hw781_1)).trans hw781_1), ((HB.out.cell (World.block_lt_of_cell? w _ hw781_2)).trans hw781_2)⟩ (fun hHeld => ?_)
             clear hK K
             refine norm_ (a' := ?_) ?_ ?_
             rotate_left
             ·show Act.put _ (some 11) _ = _
              simp only [Act.put, List.setIfInBounds_toArray, List.set_cons_zero, List.set_cons_succ, i64_w, i32_w]
              rfl
             refine one_ (i := 7) (N := some 46) #[true, true, true, true, true, true, true, true, false, false, true, false] rfl rfl (one_of HT_.out (by kernel_rfl)) (by decide) (fun K hK => ?_)
             refine goes_ Tryd.func75 (by kernel_rfl) rfl #[.agg #[.slice A0_0 l0_0.length c0_0, .slice (some ad781) l0_1.length c0_1], .int .i32 (rd l1 x10_1)] (by rfl) rfl rfl (by (try simp only [List.map_toArray, List.map_cons, List.map_nil]); first | done | rfl | (simp only [List.length_drop, List.length_take]; rfl)) ?_
             with_reducible refine (cognateref02_Find.calls k1 _ _ l0_0 _ _ l0_1 (rd l1 x10_1) t780 _ ?side1 ?side2 ?side3 ?side4 A30.out).mono ?_
             (case side1 => repeat (first | exact (Kd.C_below HR0_0.out HB.out) | (with_reducible refine Kd.C_alloc ?_ _) | (with_reducible refine Kd.C_drewN ?_ _) | (with_reducible refine Kd.C_drew ?_)))
             (case side2 => exact HC0_0.out)
             (case side3 => repeat (first | exact (Kd.C_below HR0_1.out HB.out) | (with_reducible refine Kd.C_alloc ?_ _) | (with_reducible refine Kd.C_drewN ?_ _) | (with_reducible refine Kd.C_drew ?_)))
             (case side4 => exact HC0_1.out)
             rintro e w35 ⟨rfl, hb⟩
             refine ⟨_, rfl, ?_⟩
             have n0_ := Aside0.mk (blk_below (g := gb774) (o := .cells #[.slice A0_0 l0_0.length c0_0, .slice (some ad781) l0_1.length c0_1] 25 (0, 0)) (by (with_reducible repeat (first | refine blk_drewN ?_ _ | refine blk_drew ?_ | refine blk_alloc ?_ _)); exact BK774.out) hb)
             have n1_ := Aside0.mk (blk_below (g := gb782) (o := .cells #[.int .i32 0, .int .u32 0, .int .u32 0] 53 (0, 0)) (by (with_reducible repeat (first | refine blk_drewN ?_ _ | refine blk_drew ?_ | refine blk_alloc ?_ _)); exact BK782.out) hb)
             have n2_ := Aside0.mk (below_step (by repeat (first | (with_reducible first | exact HB.out | apply below_alloc | apply pw_below_drewN | apply below_drew1 | refine below_set ?_ GE774.out | refine below_set ?_ GE782.out) | exact HB.out)) hb)
             clear BK774
             clear BK782
             clear HB
             have BK774 := n0_
             have BK782 := n1_
             have HB := n2_
             clear n0_ n1_ n2_
             (try clear hb)
             (try clear hb2)
             (try clear hk)
             (try clear hi)
             refine hK.out _ _ ⟨(blk_cell BK774.out 0).trans rfl, (blk_cell BK774.out 1).trans rfl, ((HB.out.cell (World.block_lt_of_cell? w _ hw779_0)).trans hw779_0), ((HB.out.cell (World.block_lt_of_cell? w _ hw781_0)).trans hw781_0), ((HB.out.cell (World.block_lt_of_cell? w _ hw781_1)).trans hw781_1), ((HB.out.cell (World.block_lt_of_cell? w _ hw781_2)).trans hw781_2)⟩ (fun hHeld => ?_)
             clear hK K
             refine norm_ (a' := ?_) ?_ ?_
             rotate_left
             ·show Act.put _ (some 46) _ = _
              simp only [Act.put, List.setIfInBounds_toArray, List.set_cons_zero, List.set_cons_succ, i64_w, i32_w]
              rfl
             refine pure_ (i := 8) (N := some 47) (v := ?_) (a' := ?_) #[true, true, true, true, true, true, true, true, true, false, true, false] rfl rfl (any_of HT_.out (by kernel_rfl)) (fun _ _ _ h => h) (Or.inl ⟨by rfl, ?_⟩) ?_ ?_
             rotate_left
             ·intro w'
              go_simp
              with_reducible rfl
             rotate_left
             ·simp only [Act.put, List.setIfInBounds_toArray, List.set_cons_zero, List.set_cons_succ, i64_w, i32_w]
              rfl
             refine take_ (i := 9) (N := some 48) (v := ?_) (a' := ?_) #[true, true, true, true, true, true, true, true, true, true, true, false] rfl rfl (take_ofW HT_.out HW_.out (by kernel_rfl)) (fun _ _ _ h => h) (Or.inl ⟨by rfl, ?_⟩) hHeld ?_ ?_
             rotate_left
             ·rintro w' ⟨s0, s1, s2, s3, s4, s5⟩
              go_simp
              with_reducible rfl
             rotate_left
             ·simp only [Act.put, List.setIfInBounds_toArray, List.set_cons_zero, List.set_cons_succ, i64_w, i32_w]
              rfl
             exact norm_ (by simp only [putAll, Act.put, List.setIfInBounds_toArray, List.set_cons_zero, List.set_cons_succ]) (hCont (gb782) _ ⟨hHeld, (by (with_reducible repeat (first | refine blk_drewN ?_ _ | refine blk_drew ?_ | refine blk_alloc ?_ _)); exact BK774.out), (by (with_reducible repeat (first | refine blk_drewN ?_ _ | refine blk_drew ?_ | refine blk_alloc ?_ _)); exact BK782.out), GW782.out, GE782.out, NB774_782.out, NB782_774.out, (by repeat (first | (with_reducible first | exact HB.out | apply below_alloc | apply pw_below_drewN | apply below_drew1 | refine below_set ?_ GE774.out | refine below_set ?_ GE782.out) | exact HB.out))⟩)
           rintro gb782 w36 ⟨hS_, h0_, h1_, h2_, h3_, h4_, h5_, h6_⟩
           have n0_ : Aside0 (w36.heap[gb774]? = some (.cells #[.slice A0_0 l0_0.length c0_0, .slice (some ad781) l0_1.length c0_1] 25 (0, 0))) := ⟨h0_⟩
           have n1_ : Aside0 (w36.heap[gb782]? = some (.cells #[.int .i32 0, .int .u32 0, .int .u32 0] 53 (0, 0))) := ⟨h1_⟩
           have n2_ : Aside0 (w.heap.size ≤ gb782) := ⟨h2_⟩
           have n3_ : Aside0 (w.heap.size ≤ gb782) := ⟨h3_⟩
           have n4_ : Aside0 (gb774 ≠ gb782) := ⟨h4_⟩
           have n5_ : Aside0 (gb782 ≠ gb774) := ⟨h5_⟩
           have n6_ : Aside0 (Below w.heap.size w w36) := ⟨h6_⟩
           clear BK774
           clear HB
           clear h0_ h1_ h2_ h3_ h4_ h5_ h6_
           have BK774 := n0_
           have BK782 := n1_
           have GW782 := n2_
           have GE782 := n3_
           have NB774_782 := n4_
           have NB782_774 := n5_
           have HB := n6_
           clear n0_ n1_ n2_ n3_ n4_ n5_ n6_
           have hHeld : w36.cell? ⟨gb774, 0, none⟩ = some (.slice A0_0 l0_0.length c0_0) ∧ w36.cell? ⟨gb774, 1, none⟩ = some (.slice (some ad781) l0_1.length c0_1) ∧ w36.cell? (ad779.add (x10_1).toNat) = some (.int .i32 (rd l1 x10_1)) ∧ w36.cell? (ad781.add ((t780).toNat * 3)) = some (.int .i32 ((rd_T53 l0_1 t780).f0)) ∧ w36.cell? ⟨(ad781.add ((t780).toNat * 3)).block, (ad781.add ((t780).toNat * 3)).off + 1, none⟩ = some (.int .u32 ((rd_T53 l0_1 t780).f1)) ∧ w36.cell? ⟨(ad781.add ((t780).toNat * 3)).block, (ad781.add ((t780).toNat * 3)).off + 2, none⟩ = some (.int .u32 ((rd_T53 l0_1 t780).f2)) := hS_
           refine norm_ (a' := ?_) ?_ ?_
           rotate_left
           ·simp only [putAll, Act.put, List.setIfInBounds_toArray, List.set_cons_zero, List.set_cons_succ]
            rfl
           refine one_ (i := 11) (N := none) #[true, true, true, true, true, true, true, true, true, true, true, true] rfl rfl (one_of HT_.out (by kernel_rfl)) (by decide) (fun K hK => ?_)
           have hs37 : w36.cell? ⟨gb782, 0, none⟩ = some (.int .i32 0) := (blk_cell BK782.out 0).trans rfl
           have hfs37 := blk_frozen BK782.out 0
           have hns37_0 := NB774_782.out
           have hms37_0 := NB782_774.out
           have hs38 : w36.cell? ⟨gb782, 1, none⟩ = some (.int .u32 0) := (blk_cell BK782.out 1).trans rfl
           have hfs38 := blk_frozen BK782.out 1
           have hns38_0 := NB774_782.out
           have hms38_0 := NB782_774.out
           have hs39 : w36.cell? ⟨gb782, 2, none⟩ = some (.int .u32 0) := (blk_cell BK782.out 2).trans rfl
           have hfs39 := blk_frozen BK782.out 2
           have hns39_0 := NB774_782.out
           have hms39_0 := NB782_774.out
           refine skip_ (w1 := ?_) (by rfl) rfl ?_ ?_
           rotate_left
           ·go_simp
            rfl
           refine hK.out _ _ ⟨((cell_far (p := ⟨gb782, _, none⟩) NB774_782.out _).trans (((cell_far (p := ⟨gb782, _, none⟩) NB774_782.out _).trans (((cell_far (p := ⟨gb782, _, none⟩) NB774_782.out _).trans (hHeld.1)))))), ((cell_far (p := ⟨gb782, _, none⟩) NB774_782.out _).trans (((cell_far (p := ⟨gb782, _, none⟩) NB774_782.out _).trans (((cell_far (p := ⟨gb782, _, none⟩) NB774_782.out _).trans (hHeld.2.1)))))), ((cell_far (p := ⟨gb782, _, none⟩) (by first | exact Nat.ne_of_lt (Nat.lt_of_lt_of_le (by have := World.block_lt_of_cell? _ _ hw779_0; first | rwa [add_block] at this | exact this) GW782.out) | (rw [add_block]; exact Nat.ne_of_lt (Nat.lt_of_lt_of_le (by have := World.block_lt_of_cell? _ _ hw779_0; first | rwa [add_block] at this | exact this) GW782.out)) | (show (Addr.add _ _).block ≠ _; rw [add_block]; exact Nat.ne_of_lt (Nat.lt_of_lt_of_le (by have := World.block_lt_of_cell? _ _ hw779_0; first | rwa [add_block] at this | exact this) GW782.out)) | (dsimp only; exact Nat.ne_of_lt (Nat.lt_of_lt_of_le (by have := World.block_lt_of_cell? _ _ hw779_0; first | rwa [add_block] at this | exact this) GW782.out))) _).trans (((cell_far (p := ⟨gb782, _, none⟩) (by first | exact Nat.ne_of_lt (Nat.lt_of_lt_of_le (by have := World.block_lt_of_cell? _ _ hw779_0; first | rwa [add_block] at this | exact this) GW782.out) | (rw [add_block]; exact Nat.ne_of_lt (Nat.lt_of_lt_of_le (by have := World.block_lt_of_cell? _ _ hw779_0; first | rwa [add_block] at this | exact this) GW782.out)) | (show (Addr.add _ _).block ≠ _; rw [add_block]; exact Nat.ne_of_lt (Nat.lt_of_lt_of_le (by have := World.block_lt_of_cell? _ _ hw779_0; first | rwa [add_block] at this | exact this) GW782.out)) | (dsimp only; exact Nat.ne_of_lt (Nat.lt_of_lt_of_le (by have := World.block_lt_of_cell? _ _ hw779_0; first | rwa [add_block] at this | exact this) GW782.out))) _).trans (((cell_far (p := ⟨gb782, _, none⟩) (by first | exact Nat.ne_of_lt (Nat.lt_of_lt_of_le (by have := World.block_lt_of_cell? _ _ hw779_0; first | rwa [add_block] at this | exact this) GW782.out) | (rw [add_block]; exact Nat.ne_of_lt (Nat.lt_of_lt_of_le (by have := World.block_lt_of_cell? _ _ hw779_0; first | rwa [add_block] at this | exact this) GW782.out)) | (show (Addr.add _ _).block ≠ _; rw [add_block]; exact Nat.ne_of_lt (Nat.lt_of_lt_of_le (by have := World.block_lt_of_cell? _ _ hw779_0; first | rwa [add_block] at this | exact this) GW782.out)) | (dsimp only; exact Nat.ne_of_lt (Nat.lt_of_lt_of_le (by have := World.block_lt_of_cell? _ _ hw779_0; first | rwa [add_block] at this | exact this) GW782.out))) _).trans (hHeld.2.2.1)))))), ((cell_far (p := ⟨gb782, _, none⟩) (by first | exact Nat.ne_of_lt (Nat.lt_of_lt_of_le (by have := World.block_lt_of_cell? _ _ hw781_0; first | rwa [add_block] at this | exact this) GW782.out) | (rw [add_block]; exact Nat.ne_of_lt (Nat.lt_of_lt_of_le (by have := World.block_lt_of_cell? _ _ hw781_0; first | rwa [add_block] at this | exact this) GW782.out)) | (show (Addr.add _ _).block ≠ _; rw [add_block]; exact Nat.ne_of_lt (Nat.lt_of_lt_of_le (by have := World.block_lt_of_cell? _ _ hw781_0; first | rwa [add_block] at this | exact this) GW782.out)) | (dsimp only; exact Nat.ne_of_lt (Nat.lt_of_lt_of_le (by have := World.block_lt_of_cell? _ _ hw781_0; first | rwa [add_block] at this | exact this) GW782.out))) _).trans (((cell_far (p := ⟨gb782, _, none⟩) (by first | exact Nat.ne_of_lt (Nat.lt_of_lt_of_le (by have := World.block_lt_of_cell? _ _ hw781_0; first | rwa [add_block] at this | exact this) GW782.out) | (rw [add_block]; exact Nat.ne_of_lt (Nat.lt_of_lt_of_le (by have := World.block_lt_of_cell? _ _ hw781_0; first | rwa [add_block] at this | exact this) GW782.out)) | (show (Addr.add _ _).block ≠ _; rw [add_block]; exact Nat.ne_of_lt (Nat.lt_of_lt_of_le (by have := World.block_lt_of_cell? _ _ hw781_0; first | rwa [add_block] at this | exact this) GW782.out)) | (dsimp only; exact Nat.ne_of_lt (Nat.lt_of_lt_of_le (by have := World.block_lt_of_cell? _ _ hw781_0; first | rwa [add_block] at this | exact this) GW782.out))) _).trans (((cell_far (p := ⟨gb782, _, none⟩) (by first | exact Nat.ne_of_lt (Nat.lt_of_lt_of_le (by have := World.block_lt_of_cell? _ _ hw781_0; first | rwa [add_block] at this | exact this) GW782.out) | (rw [add_block]; exact Nat.ne_of_lt (Nat.lt_of_lt_of_le (by have := World.block_lt_of_cell? _ _ hw781_0; first | rwa [add_block] at this | exact this) GW782.out)) | (show (Addr.add _ _).block ≠ _; rw [add_block]; exact Nat.ne_of_lt (Nat.lt_of_lt_of_le (by have := World.block_lt_of_cell? _ _ hw781_0; first | rwa [add_block] at this | exact this) GW782.out)) | (dsimp only; exact Nat.ne_of_lt (Nat.lt_of_lt_of_le (by have := World.block_lt_of_cell? _ _ hw781_0; first | rwa [add_block] at this | exact this) GW782.out))) _).trans (hHeld.2.2.2.1)))))), ((cell_far (p := ⟨gb782, _, none⟩) (by first | exact Nat.ne_of_lt (Nat.lt_of_lt_of_le (by have := World.block_lt_of_cell? _ _ hw781_1; first | rwa [add_block] at this | exact this) GW782.out) | (rw [add_block]; exact Nat.ne_of_lt (Nat.lt_of_lt_of_le (by have := World.block_lt_of_cell? _ _ hw781_1; first | rwa [add_block] at this | exact this) GW782.out)) | (show (Addr.add _ _).block ≠ _; rw [add_block]; exact Nat.ne_of_lt (Nat.lt_of_lt_of_le (by have := World.block_lt_of_cell? _ _ hw781_1; first | rwa [add_block] at this | exact this) GW782.out)) | (dsimp only; exact Nat.ne_of_lt (Nat.lt_of_lt_of_le (by have := World.block_lt_of_cell? _ _ hw781_1; first | rwa [add_block] at this | exact this) GW782.out))) _).trans (((cell_far (p := ⟨gb782, _, none⟩) (by first | exact Nat.ne_of_lt (Nat.lt_of_lt_of_le (by have := World.block_lt_of_cell? _ _ hw781_1; first | rwa [add_block] at this | exact this) GW782.out) | (rw [add_block]; exact Nat.ne_of_lt (Nat.lt_of_lt_of_le (by have := World.block_lt_of_cell? _ _ hw781_1; first | rwa [add_block] at this | exact this) GW782.out)) | (show (Addr.add _ _).block ≠ _; rw [add_block]; exact Nat.ne_of_lt (Nat.lt_of_lt_of_le (by have := World.block_lt_of_cell? _ _ hw781_1; first | rwa [add_block] at this | exact this) GW782.out)) | (dsimp only; exact Nat.ne_of_lt (Nat.lt_of_lt_of_le (by have := World.block_lt_of_cell? _ _ hw781_1; first | rwa [add_block] at this | exact this) GW782.out))) _).trans (((cell_far (p := ⟨gb782, _, none⟩) (by first | exact Nat.ne_of_lt (Nat.lt_of_lt_of_le (by have := World.block_lt_of_cell? _ _ hw781_1; first | rwa [add_block] at this | exact this) GW782.out) | (rw [add_block]; exact Nat.ne_of_lt (Nat.lt_of_lt_of_le (by have := World.block_lt_of_cell? _ _ hw781_1; first | rwa [add_block] at this | exact this) GW782.out)) | (show (Addr.add _ _).block ≠ _; rw [add_block]; exact Nat.ne_of_lt (Nat.lt_of_lt_of_le (by have := World.block_lt_of_cell? _ _ hw781_1; first | rwa [add_block] at this | exact this) GW782.out)) | (dsimp only; exact Nat.ne_of_lt (Nat.lt_of_lt_of_le (by have := World.block_lt_of_cell? _ _ hw781_1; first | rwa [add_block] at this | exact this) GW782.out))) _).trans (hHeld.2.2.2.2.1)))))), ((cell_far (p := ⟨gb782, _, none⟩) (by first | exact Nat.ne_of_lt (Nat.lt_of_lt_of_le (by have := World.block_lt_of_cell? _ _ hw781_2; first | rwa [add_block] at this | exact this) GW782.out) | (rw [add_block]; exact Nat.ne_of_lt (Nat.lt_of_lt_of_le (by have := World.block_lt_of_cell? _ _ hw781_2; first | rwa [add_block] at this | exact this) GW782.out)) | (show (Addr.add _ _).block ≠ _; rw [add_block]; exact Nat.ne_of_lt (Nat.lt_of_lt_of_le (by have := World.block_lt_of_cell? _ _ hw781_2; first | rwa [add_block] at this | exact this) GW782.out)) | (dsimp only; exact Nat.ne_of_lt (Nat.lt_of_lt_of_le (by have := World.block_lt_of_cell? _ _ hw781_2; first | rwa [add_block] at this | exact this) GW782.out))) _).trans (((cell_far (p := ⟨gb782, _, none⟩) (by first | exact Nat.ne_of_lt (Nat.lt_of_lt_of_le (by have := World.block_lt_of_cell? _ _ hw781_2; first | rwa [add_block] at this | exact this) GW782.out) | (rw [add_block]; exact Nat.ne_of_lt (Nat.lt_of_lt_of_le (by have := World.block_lt_of_cell? _ _ hw781_2; first | rwa [add_block] at this | exact this) GW782.out)) | (show (Addr.add _ _).block ≠ _; rw [add_block]; exact Nat.ne_of_lt (Nat.lt_of_lt_of_le (by have := World.block_lt_of_cell? _ _ hw781_2; first | rwa [add_block] at this | exact this) GW782.out)) | (dsimp only; exact Nat.ne_of_lt (Nat.lt_of_lt_of_le (by have := World.block_lt_of_cell? _ _ hw781_2; first | rwa [add_block] at this | exact this) GW782.out))) _).trans (((cell_far (p := ⟨gb782, _, none⟩) (by first | exact Nat.ne_of_lt (Nat.lt_of_lt_of_le (by have := World.block_lt_of_cell? _ _ hw781_2; first | rwa [add_block] at this | exact this) GW782.out) | (rw [add_block]; exact Nat.ne_of_lt (Nat.lt_of_lt_of_le (by have := World.block_lt_of_cell? _ _ hw781_2; first | rwa [add_block] at this | exact this) GW782.out)) | (show (Addr.add _ _).block ≠ _; rw [add_block]; exact Nat.ne_of_lt (Nat.lt_of_lt_of_le (by have := World.block_lt_of_cell? _ _ hw781_2; first | rwa [add_block] at this | exact this) GW782.out)) | (dsimp only; exact Nat.ne_of_lt (Nat.lt_of_lt_of_le (by have := World.block_lt_of_cell? _ _ hw781_2; first | rwa [add_block] at this | exact this) GW782.out))) _).trans (hHeld.2.2.2.2.2))))))⟩ (fun hHeld => ?_)
           clear hK K
           refine done_ (done_of HT_.out (by kernel_rfl)) ?_
           have hnb40 := NB782_774.out
           have hnc40 := NB774_782.out
           have hcz41_0 : w36.cell? ⟨gb782, 0, none⟩ = some (.int .i32 0) := (blk_cell BK782.out 0).trans rfl
           have hcz41_1 : w36.cell? ⟨gb782, 1, none⟩ = some (.int .u32 0) := (blk_cell BK782.out 1).trans rfl
           have hcz41_2 : w36.cell? ⟨gb782, 2, none⟩ = some (.int .u32 0) := (blk_cell BK782.out 2).trans rfl
           have hfz41_0 := blk_frozen BK782.out 0
           have hfz41_1 := blk_frozen BK782.out 1
           have hfz41_2 := blk_frozen BK782.out 2
           try go_wp2
           go_roundg k1
           case measure => have := HK1.out; omega
           case rel => exact ⟨(Go.bits .and .u32 x8_1 ((rd_T53 l0_1 t780).f1)), (Go.bits .and .u32 x9_1 ((rd_T53 l0_1 t780).f2)), (wrap64 (x10_1 + 1)), (by first | rfl | (simp; done) | (simp [*]; done)), (by first | rfl | (simp; done) | (simp [*]; done)), (by first | rfl | (simp; done) | (simp [*]; done)), H', ⟨by have := HK1.out; omega⟩, ⟨by (with_reducible repeat (first | refine blk_drewN ?_ _ | refine blk_drew ?_ | refine blk_alloc ?_ _)); refine blk_far ?_ NB774_782.out _; (with_reducible repeat (first | refine blk_drewN ?_ _ | refine blk_drew ?_ | refine blk_alloc ?_ _)); refine blk_far ?_ NB774_782.out _; (with_reducible repeat (first | refine blk_drewN ?_ _ | refine blk_drew ?_ | refine blk_alloc ?_ _)); refine blk_far ?_ NB774_782.out _; (with_reducible repeat (first | refine blk_drewN ?_ _ | refine blk_drew ?_ | refine blk_alloc ?_ _)); exact BK774.out⟩, ⟨by repeat (first | (with_reducible first | exact HB.out | apply below_alloc | apply pw_below_drewN | apply below_drew1 | refine below_set ?_ GE774.out | refine below_set ?_ GE782.out) | exact HB.out)⟩⟩
          ·rw [if_neg c32] at H
           exact absurd H (by simp)
         ·rw [if_neg c31] at H
          exact absurd H (by simp)
        ·rw [if_neg c29] at H
         exact absurd H (by simp)
       ·rw [if_neg c28] at H
        have c28b0 : decide (x10_1 < (l1.length : Int)) = false := decide_eq_false c28
        clear c28
        simp only [Option.some.injEq, Prod.mk.injEq] at H
        obtain ⟨rfl, rfl, rfl⟩ := H
        go_wp2
        go_ret3
        exact ⟨by first | rfl | (simp [errW_none, errW_some] <;> rfl) | (simp [*, errW_none, errW_some] <;> rfl), by repeat (first | (with_reducible first | exact HB.out | apply below_alloc | apply pw_below_drewN | apply below_drew1 | refine below_set ?_ GE774.out) | exact HB.out)⟩
   ·rw [if_neg c10] at H
    have c10b0 : (t776 == 0) = false := beq_eq_false_iff_ne.mpr c10
    have c10b1 : (t776 != 0) = true := bne_iff_ne.mpr c10
    simp only [Option.some.injEq, Prod.mk.injEq] at H
    obtain ⟨rfl, rfl, rfl⟩ := H
    go_enter Tryd.func52, Tryd.ntmps52
    go_wp2_with (first | ((with_reducible refine gate_dst (N := 2) rfl ?_); refine box_event ?hg (N := 2) ?hd (cs := #[.slice A0_0 l0_0.length c0_0, .slice A0_1 l0_1.length c0_1]) (t := 25) ?hr ?_; (case hd => rfl); (case hg => rfl); (case hr => first | (go_simp; done) | (go_simp; rfl)); intro gb774 hg w42 hbox hb; have n0_ := Aside0.mk (below_step (by repeat (first | (with_reducible first | exact HB.out | apply below_alloc | apply pw_below_drewN | apply below_drew1) | exact HB.out)) hb); have n1_ := Aside0.mk (hbox); have n2_ := Aside0.mk ((by rw [hg]; exact (below_size (by repeat (first | (with_reducible first | exact HB.out | apply below_alloc | apply pw_below_drewN | apply below_drew1) | exact HB.out))) : w.heap.size ≤ gb774)); have n3_ := Aside0.mk ((by rw [hg]; exact (below_size (by repeat (first | (with_reducible first | exact HB.out | apply below_alloc | apply pw_below_drewN | apply below_drew1) | exact HB.out))) : w.heap.size ≤ gb774)); clear HB; have HB := n0_; have BK774 := n1_; have GW774 := n2_; have GE774 := n3_; clear n0_ n1_ n2_ n3_; clear hb hbox hg; have hcz43_0 : w42.cell? ⟨gb774, 0, none⟩ = some (.slice A0_0 l0_0.length c0_0) := (blk_cell BK774.out 0).trans rfl; have hcz43_1 : w42.cell? ⟨gb774, 1, none⟩ = some (.slice A0_1 l0_1.length c0_1) := (blk_cell BK774.out 1).trans rfl; have hfz43_0 := blk_frozen BK774.out 0; have hfz43_1 := blk_frozen BK774.out 1) | ((with_reducible refine gate_callee (f := 74) rfl ?_); refine goesL_ (some 13) rfl rfl Tryd.func74 (by kernel_rfl) rfl #[.agg #[.slice A0_0 l0_0.length c0_0, .slice A0_1 l0_1.length c0_1], .slice none 0 0] rfl (by (try simp only [List.map_toArray, List.map_cons, List.map_nil]); first | done | rfl | (simp only [List.length_drop, List.length_take]; rfl)) ?_; (refine (cognateref02_asked.calls k _ _ l0_0 _ _ l0_1 _ _ ([] : List Int) t775 _ ?side1 ?side2 ?side3 ?side4 ?side5 ?side6 A3.out).mono ?_); (case side1 => repeat (first | exact (Kd.C_below HR0_0.out HB.out) | (with_reducible refine Kd.C_alloc ?_ _) | (with_reducible refine Kd.C_drewN ?_ _) | (with_reducible refine Kd.C_drew ?_))); (case side2 => exact HC0_0.out); (case side3 => repeat (first | exact (Kd.C_below HR0_1.out HB.out) | (with_reducible refine Kd.C_alloc ?_ _) | (with_reducible refine Kd.C_drewN ?_ _) | (with_reducible refine Kd.C_drew ?_))); (case side4 => exact HC0_1.out); (case side5 => exact Kd.C_nil _ _); (case side6 => exact Nat.le_refl _); rintro e w44 ⟨rfl, hb⟩; refine ⟨_, rfl, ?_⟩; have n0_ := Aside0.mk (blk_below (g := gb774) (o := .cells #[.slice A0_0 l0_0.length c0_0, .slice A0_1 l0_1.length c0_1] 25 (0, 0)) (by (with_reducible repeat (first | refine blk_drewN ?_ _ | refine blk_drew ?_ | refine blk_alloc ?_ _)); exact BK774.out) hb); have n1_ := Aside0.mk (below_step (by repeat (first | (with_reducible first | exact HB.out | apply below_alloc | apply pw_below_drewN | apply below_drew1 | refine below_set ?_ GE774.out) | exact HB.out)) hb); clear BK774; clear HB; have BK774 := n0_; have HB := n1_; clear n0_ n1_; (try clear hb); (try clear hb2); (try clear hk); (try clear hi); have hcz45_0 : w44.cell? ⟨gb774, 0, none⟩ = some (.slice A0_0 l0_0.length c0_0) := (blk_cell BK774.out 0).trans rfl; have hcz45_1 : w44.cell? ⟨gb774, 1, none⟩ = some (.slice A0_1 l0_1.length c0_1) := (blk_cell BK774.out 1).trans rfl; have hfz45_0 := blk_frozen BK774.out 0; have hfz45_1 := blk_frozen BK774.out 1) | ((with_reducible refine gate_callee (f := 74) rfl ?_); refine goesL_ (some 22) rfl rfl Tryd.func74 (by kernel_rfl) rfl #[.agg #[.slice A0_0 l0_0.length c0_0, .slice A0_1 l0_1.length c0_1], .slice A1 l1.length c1] rfl (by (try simp only [List.map_toArray, List.map_cons, List.map_nil]); first | done | rfl | (simp only [List.length_drop, List.length_take]; rfl)) ?_; (with_reducible refine (cognateref02_asked.calls k _ _ l0_0 _ _ l0_1 _ _ l1 t776 _ ?side1 ?side2 ?side3 ?side4 ?side5 ?side6 A9.out).mono ?_); (case side1 => repeat (first | exact (Kd.C_below HR0_0.out HB.out) | (with_reducible refine Kd.C_alloc ?_ _) | (with_reducible refine Kd.C_drewN ?_ _) | (with_reducible refine Kd.C_drew ?_))); (case side2 => exact HC0_0.out); (case side3 => repeat (first | exact (Kd.C_below HR0_1.out HB.out) | (with_reducible refine Kd.C_alloc ?_ _) | (with_reducible refine Kd.C_drewN ?_ _) | (with_reducible refine Kd.C_drew ?_))); (case side4 => exact HC0_1.out); (case side5 => repeat (first | exact (Kd.C_below HR1.out HB.out) | (with_reducible refine Kd.C_alloc ?_ _) | (with_reducible refine Kd.C_drewN ?_ _) | (with_reducible refine Kd.C_drew ?_))); (case side6 => exact HC1.out); rintro e w46 ⟨rfl, hb⟩; refine ⟨_, rfl, ?_⟩; have n0_ := Aside0.mk (blk_below (g := gb774) (o := .cells #[.slice A0_0 l0_0.length c0_0, .slice A0_1 l0_1.length c0_1] 25 (0, 0)) (by (with_reducible repeat (first | refine blk_drewN ?_ _ | refine blk_drew ?_ | refine blk_alloc ?_ _)); exact BK774.out) hb); have n1_ := Aside0.mk (below_step (by repeat (first | (with_reducible first | exact HB.out | apply below_alloc | apply pw_below_drewN | apply below_drew1 | refine below_set ?_ GE774.out) | exact HB.out)) hb); clear BK774; clear HB; have BK774 := n0_; have HB := n1_; clear n0_ n1_; (try clear hb); (try clear hb2); (try clear hk); (try clear hi)))
    go_ret3
    exact ⟨by first | rfl | (simp [errW_none, errW_some] <;> rfl) | (simp [*, errW_none, errW_some] <;> rfl), by repeat (first | (with_reducible first | exact HB.out | apply below_alloc | apply pw_below_drewN | apply below_drew1 | refine below_set ?_ GE774.out) | exact HB.out)⟩
 ·rw [if_neg c4] at H
  have c4b0 : (t775 == 0) = false := beq_eq_false_iff_ne.mpr c4
  have c4b1 : (t775 != 0) = true := bne_iff_ne.mpr c4
  simp only [Option.some.injEq, Prod.mk.injEq] at H
  obtain ⟨rfl, rfl, rfl⟩ := H
  go_enter Tryd.func52, Tryd.ntmps52
  go_wp2_with (first | ((with_reducible refine gate_dst (N := 2) rfl ?_); refine box_event ?hg (N := 2) ?hd (cs := #[.slice A0_0 l0_0.length c0_0, .slice A0_1 l0_1.length c0_1]) (t := 25) ?hr ?_; (case hd => rfl); (case hg => rfl); (case hr => first | (go_simp; done) | (go_simp; rfl)); intro gb774 hg w47 hbox hb; have n0_ := Aside0.mk (below_step (by repeat (first | (with_reducible first | exact HB.out | apply below_alloc | apply pw_below_drewN | apply below_drew1) | exact HB.out)) hb); have n1_ := Aside0.mk (hbox); have n2_ := Aside0.mk ((by rw [hg]; exact (below_size (by repeat (first | (with_reducible first | exact HB.out | apply below_alloc | apply pw_below_drewN | apply below_drew1) | exact HB.out))) : w.heap.size ≤ gb774)); have n3_ := Aside0.mk ((by rw [hg]; exact (below_size (by repeat (first | (with_reducible first | exact HB.out | apply below_alloc | apply pw_below_drewN | apply below_drew1) | exact HB.out))) : w.heap.size ≤ gb774)); clear HB; have HB := n0_; have BK774 := n1_; have GW774 := n2_; have GE774 := n3_; clear n0_ n1_ n2_ n3_; clear hb hbox hg; have hcz48_0 : w47.cell? ⟨gb774, 0, none⟩ = some (.slice A0_0 l0_0.length c0_0) := (blk_cell BK774.out 0).trans rfl; have hcz48_1 : w47.cell? ⟨gb774, 1, none⟩ = some (.slice A0_1 l0_1.length c0_1) := (blk_cell BK774.out 1).trans rfl; have hfz48_0 := blk_frozen BK774.out 0; have hfz48_1 := blk_frozen BK774.out 1) | ((with_reducible refine gate_callee (f := 74) rfl ?_); refine goesL_ (some 13) rfl rfl Tryd.func74 (by kernel_rfl) rfl #[.agg #[.slice A0_0 l0_0.length c0_0, .slice A0_1 l0_1.length c0_1], .slice none 0 0] rfl (by (try simp only [List.map_toArray, List.map_cons, List.map_nil]); first | done | rfl | (simp only [List.length_drop, List.length_take]; rfl)) ?_; (refine (cognateref02_asked.calls k _ _ l0_0 _ _ l0_1 _ _ ([] : List Int) t775 _ ?side1 ?side2 ?side3 ?side4 ?side5 ?side6 A3.out).mono ?_); (case side1 => repeat (first | exact (Kd.C_below HR0_0.out HB.out) | (with_reducible refine Kd.C_alloc ?_ _) | (with_reducible refine Kd.C_drewN ?_ _) | (with_reducible refine Kd.C_drew ?_))); (case side2 => exact HC0_0.out); (case side3 => repeat (first | exact (Kd.C_below HR0_1.out HB.out) | (with_reducible refine Kd.C_alloc ?_ _) | (with_reducible refine Kd.C_drewN ?_ _) | (with_reducible refine Kd.C_drew ?_))); (case side4 => exact HC0_1.out); (case side5 => exact Kd.C_nil _ _); (case side6 => exact Nat.le_refl _); rintro e w49 ⟨rfl, hb⟩; refine ⟨_, rfl, ?_⟩; have n0_ := Aside0.mk (blk_below (g := gb774) (o := .cells #[.slice A0_0 l0_0.length c0_0, .slice A0_1 l0_1.length c0_1] 25 (0, 0)) (by (with_reducible repeat (first | refine blk_drewN ?_ _ | refine blk_drew ?_ | refine blk_alloc ?_ _)); exact BK774.out) hb); have n1_ := Aside0.mk (below_step (by repeat (first | (with_reducible first | exact HB.out | apply below_alloc | apply pw_below_drewN | apply below_drew1 | refine below_set ?_ GE774.out) | exact HB.out)) hb); clear BK774; clear HB; have BK774 := n0_; have HB := n1_; clear n0_ n1_; (try clear hb); (try clear hb2); (try clear hk); (try clear hi)))
  go_ret3
  exact ⟨by first | rfl | (simp [errW_none, errW_some] <;> rfl) | (simp [*, errW_none, errW_some] <;> rfl), by repeat (first | (with_reducible first | exact HB.out | apply below_alloc | apply pw_below_drewN | apply below_drew1 | refine below_set ?_ GE774.out) | exact HB.out)⟩

/-! ### cognateref02_Text: function 53 -/
def cognateref02_Text.l0 : Nat → Int → Int → ByteArray → Int → List ByteArray → List (S53) → Option (ByteArray × Int)
  | 0, _, _, _, _, _, _ => none
  | k + 1, x1, x2, x9, x10, x784000, x784001 => if x10 < (x784000.length : Int) then (if 0 ≤ (IntKind.u64.wrap (x10)) then (if (Go.bits .and .u32 x1 (shl .u32 1 (IntKind.u64.wrap (x10)))) = 0 then (if (Go.bits .and .u32 x2 (shl .u32 1 (IntKind.u64.wrap (x10)))) = 0 then (cognateref02_Text.l0 k x1 x2 x9 (wrap64 (x10 + 1)) x784000 x784001) else (if x9.size + 1 ≤ 9223372036854775807 then (if 0 ≤ x10 then (if (x9 ++ (⟨#[45]⟩ : ByteArray)).size + (rdOf ByteArray.empty x784000 x10).size ≤ 9223372036854775807 then (cognateref02_Text.l0 k x1 x2 ((x9 ++ (⟨#[45]⟩ : ByteArray)) ++ (rdOf ByteArray.empty x784000 x10)) (wrap64 (x10 + 1)) x784000 x784001) else (none)) else (none)) else (none))) else (if x9.size + 1 ≤ 9223372036854775807 then (if 0 ≤ x10 then (if (x9 ++ (⟨#[43]⟩ : ByteArray)).size + (rdOf ByteArray.empty x784000 x10).size ≤ 9223372036854775807 then (if (Go.bits .and .u32 x2 (shl .u32 1 (IntKind.u64.wrap (x10)))) = 0 then (cognateref02_Text.l0 k x1 x2 ((x9 ++ (⟨#[43]⟩ : ByteArray)) ++ (rdOf ByteArray.empty x784000 x10)) (wrap64 (x10 + 1)) x784000 x784001) else (if ((x9 ++ (⟨#[43]⟩ : ByteArray)) ++ (rdOf ByteArray.empty x784000 x10)).size + 1 ≤ 9223372036854775807 then (if (((x9 ++ (⟨#[43]⟩ : ByteArray)) ++ (rdOf ByteArray.empty x784000 x10)) ++ (⟨#[45]⟩ : ByteArray)).size + (rdOf ByteArray.empty x784000 x10).size ≤ 9223372036854775807 then (cognateref02_Text.l0 k x1 x2 ((((x9 ++ (⟨#[43]⟩ : ByteArray)) ++ (rdOf ByteArray.empty x784000 x10)) ++ (⟨#[45]⟩ : ByteArray)) ++ (rdOf ByteArray.empty x784000 x10)) (wrap64 (x10 + 1)) x784000 x784001) else (none)) else (none))) else (none)) else (none)) else (none))) else (none)) else (some (x9, 0))
def cognateref02_Text.f (k : Nat) (l0_0 : List ByteArray) (l0_1 : List (S53)) (a1 : Int) (a2 : Int) : Option (ByteArray × Int) := (cognateref02_asked.f k l0_0 l0_1 ([] : List Int)).bind fun t784 => (if t784 = 0 then ((cognateref02_May.f l0_0 l0_1 a1 a2).bind fun t785 => (if t785 = true then (cognateref02_Text.l0 k a1 a2 (⟨#[]⟩ : ByteArray) 0 l0_0 l0_1) else (some ((⟨#[]⟩ : ByteArray), 20)))) else (some ((⟨#[]⟩ : ByteArray), t784)))
set_option maxHeartbeats 8000000 in
set_option maxRecDepth 100000 in
theorem cognateref02_Text.calls (k : Nat) (A0_0 : Option Addr) (c0_0 : Nat) (l0_0 : List ByteArray) (A0_1 : Option Addr) (c0_1 : Nat) (l0_1 : List (S53)) (a1 : Int) (a2 : Int) (r1 : ByteArray) (r2 : Int) (w : World) (hr0_0 : Kd.C Kd.string w A0_0 l0_0.length l0_0) (hc0_0 : l0_0.length ≤ c0_0) (hr0_1 : Kd.C k53 w A0_1 l0_1.length l0_1) (hc0_1 : l0_1.length ≤ c0_1) (h : cognateref02_Text.f k l0_0 l0_1 a1 a2 = some (r1, r2)) :
  Calls Tryd.prog 53 #[.agg #[.slice A0_0 l0_0.length c0_0, .slice A0_1 l0_1.length c0_1], .int .u32 a1, .int .u32 a2] w fun e w' => e = .returned (.tuple #[.string r1, .int .i64 r2]) ∧ Below w.heap.size w w' := by
 have hu25 := Tryd.underlying25
 have HR0_0 := Aside0.mk hr0_0
 have HC0_0 := Aside0.mk hc0_0
 clear hr0_0 hc0_0
 have HR0_1 := Aside0.mk hr0_1
 have HC0_1 := Aside0.mk hc0_1
 clear hr0_1 hc0_1
 have HB := Aside0.mk (Below.refl w.heap.size w)
 have H : ((cognateref02_asked.f k l0_0 l0_1 ([] : List Int)).bind fun t784 => (if t784 = 0 then ((cognateref02_May.f l0_0 l0_1 a1 a2).bind fun t785 => (if t785 = true then (cognateref02_Text.l0 k a1 a2 (⟨#[]⟩ : ByteArray) 0 l0_0 l0_1) else (some ((⟨#[]⟩ : ByteArray), 20)))) else (some ((⟨#[]⟩ : ByteArray), t784)))) = some (r1, r2) := h
 clear h
 replace H := Option.bind_eq_some_iff.mp H
 obtain ⟨t784, A40, H⟩ := H
 replace H : (if t784 = 0 then ((cognateref02_May.f l0_0 l0_1 a1 a2).bind fun t785 => (if t785 = true then (cognateref02_Text.l0 k a1 a2 (⟨#[]⟩ : ByteArray) 0 l0_0 l0_1) else (some ((⟨#[]⟩ : ByteArray), 20)))) else (some ((⟨#[]⟩ : ByteArray), t784))) = some (r1, r2) := H
 have A4 := Aside0.mk A40
 clear A40
 by_cases c5 : t784 = 0
 ·rw [if_pos c5] at H
  have c5b0 : (t784 == 0) = true := beq_iff_eq.mpr c5
  have c5b1 : (t784 != 0) = false := bne_eq_false_iff_eq.mpr c5
  clear c5
  replace H := Option.bind_eq_some_iff.mp H
  obtain ⟨t785, A60, H⟩ := H
  replace H : (if t785 = true then (cognateref02_Text.l0 k a1 a2 (⟨#[]⟩ : ByteArray) 0 l0_0 l0_1) else (some ((⟨#[]⟩ : ByteArray), 20))) = some (r1, r2) := H
  have A6 := Aside0.mk A60
  clear A60
  by_cases c7 : t785 = true
  ·subst c7
   have H1 : (cognateref02_Text.l0 k a1 a2 (⟨#[]⟩ : ByteArray) 0 l0_0 l0_1) = some (r1, r2) := by rw [if_pos rfl] at H; exact H
   clear H
   have H := H1
   clear H1
   have H' := Aside0.mk H
   clear H
   go_enter Tryd.func53, Tryd.ntmps53
   go_wp2_with (first | ((with_reducible refine gate_dst (N := 3) rfl ?_); refine box_event ?hg (N := 3) ?hd (cs := #[.slice A0_0 l0_0.length c0_0, .slice A0_1 l0_1.length c0_1]) (t := 25) ?hr ?_; (case hd => rfl); (case hg => rfl); (case hr => first | (go_simp; done) | (go_simp; rfl)); intro gb783 hg w8 hbox hb; have n0_ := Aside0.mk (below_step (by repeat (first | (with_reducible first | exact HB.out | apply below_alloc | apply pw_below_drewN | apply below_drew1) | exact HB.out)) hb); have n1_ := Aside0.mk (hbox); have n2_ := Aside0.mk ((by rw [hg]; exact (below_size (by repeat (first | (with_reducible first | exact HB.out | apply below_alloc | apply pw_below_drewN | apply below_drew1) | exact HB.out))) : w.heap.size ≤ gb783)); have n3_ := Aside0.mk ((by rw [hg]; exact (below_size (by repeat (first | (with_reducible first | exact HB.out | apply below_alloc | apply pw_below_drewN | apply below_drew1) | exact HB.out))) : w.heap.size ≤ gb783)); clear HB; have HB := n0_; have BK783 := n1_; have GW783 := n2_; have GE783 := n3_; clear n0_ n1_ n2_ n3_; clear hb hbox hg; have hcz9_0 : w8.cell? ⟨gb783, 0, none⟩ = some (.slice A0_0 l0_0.length c0_0) := (blk_cell BK783.out 0).trans rfl; have hcz9_1 : w8.cell? ⟨gb783, 1, none⟩ = some (.slice A0_1 l0_1.length c0_1) := (blk_cell BK783.out 1).trans rfl; have hfz9_0 := blk_frozen BK783.out 0; have hfz9_1 := blk_frozen BK783.out 1) | ((with_reducible refine gate_callee (f := 74) rfl ?_); refine goesL_ (some 13) rfl rfl Tryd.func74 (by kernel_rfl) rfl #[.agg #[.slice A0_0 l0_0.length c0_0, .slice A0_1 l0_1.length c0_1], .slice none 0 0] rfl (by (try simp only [List.map_toArray, List.map_cons, List.map_nil]); first | done | rfl | (simp only [List.length_drop, List.length_take]; rfl)) ?_; (refine (cognateref02_asked.calls k _ _ l0_0 _ _ l0_1 _ _ ([] : List Int) t784 _ ?side1 ?side2 ?side3 ?side4 ?side5 ?side6 A4.out).mono ?_); (case side1 => repeat (first | exact (Kd.C_below HR0_0.out HB.out) | (with_reducible refine Kd.C_alloc ?_ _) | (with_reducible refine Kd.C_drewN ?_ _) | (with_reducible refine Kd.C_drew ?_))); (case side2 => exact HC0_0.out); (case side3 => repeat (first | exact (Kd.C_below HR0_1.out HB.out) | (with_reducible refine Kd.C_alloc ?_ _) | (with_reducible refine Kd.C_drewN ?_ _) | (with_reducible refine Kd.C_drew ?_))); (case side4 => exact HC0_1.out); (case side5 => exact Kd.C_nil _ _); (case side6 => exact Nat.le_refl _); rintro e w10 ⟨rfl, hb⟩; refine ⟨_, rfl, ?_⟩; have n0_ := Aside0.mk (blk_below (g := gb783) (o := .cells #[.slice A0_0 l0_0.length c0_0, .slice A0_1 l0_1.length c0_1] 25 (0, 0)) (by (with_reducible repeat (first | refine blk_drewN ?_ _ | refine blk_drew ?_ | refine blk_alloc ?_ _)); exact BK783.out) hb); have n1_ := Aside0.mk (below_step (by repeat (first | (with_reducible first | exact HB.out | apply below_alloc | apply pw_below_drewN | apply below_drew1 | refine below_set ?_ GE783.out) | exact HB.out)) hb); clear BK783; clear HB; have BK783 := n0_; have HB := n1_; clear n0_ n1_; (try clear hb); (try clear hb2); (try clear hk); (try clear hi); have hcz11_0 : w10.cell? ⟨gb783, 0, none⟩ = some (.slice A0_0 l0_0.length c0_0) := (blk_cell BK783.out 0).trans rfl; have hcz11_1 : w10.cell? ⟨gb783, 1, none⟩ = some (.slice A0_1 l0_1.length c0_1) := (blk_cell BK783.out 1).trans rfl; have hfz11_0 := blk_frozen BK783.out 0; have hfz11_1 := blk_frozen BK783.out 1) | ((with_reducible refine gate_callee (f := 76) rfl ?_); refine goesL_ (some 20) rfl rfl Tryd.func76 (by kernel_rfl) rfl #[.agg #[.slice A0_0 l0_0.length c0_0, .slice A0_1 l0_1.length c0_1], .int .u32 a1, .int .u32 a2] rfl (by (try simp only [List.map_toArray, List.map_cons, List.map_nil]); first | done | rfl | (simp only [List.length_drop, List.length_take]; rfl)) ?_; (with_reducible refine (cognateref02_May.calls _ _ l0_0 _ _ l0_1 a1 a2 true _ ?side1 ?side2 ?side3 ?side4 A6.out).mono ?_); (case side1 => repeat (first | exact (Kd.C_below HR0_0.out HB.out) | (with_reducible refine Kd.C_alloc ?_ _) | (with_reducible refine Kd.C_drewN ?_ _) | (with_reducible refine Kd.C_drew ?_))); (case side2 => exact HC0_0.out); (case side3 => repeat (first | exact (Kd.C_below HR0_1.out HB.out) | (with_reducible refine Kd.C_alloc ?_ _) | (with_reducible refine Kd.C_drewN ?_ _) | (with_reducible refine Kd.C_drew ?_))); (case side4 => exact HC0_1.out); rintro e w12 ⟨rfl, hb⟩; refine ⟨_, rfl, ?_⟩; have n0_ := Aside0.mk (blk_below (g := gb783) (o := .cells #[.slice A0_0 l0_0.length c0_0, .slice A0_1 l0_1.length c0_1] 25 (0, 0)) (by (with_reducible repeat (first | refine blk_drewN ?_ _ | refine blk_drew ?_ | refine blk_alloc ?_ _)); exact BK783.out) hb); have n1_ := Aside0.mk (below_step (by repeat (first | (with_reducible first | exact HB.out | apply below_alloc | apply pw_below_drewN | apply below_drew1 | refine below_set ?_ GE783.out) | exact HB.out)) hb); clear BK783; clear HB; have BK783 := n0_; have HB := n1_; clear n0_ n1_; (try clear hb); (try clear hb2); (try clear hk); (try clear hi)))
   go_loopg [9, 10] k (fun kq v9 v10 w' => ∃ (x9_1 : ByteArray) (x10_1 : Int), v9 = .string x9_1 ∧ v10 = .int .i64 x10_1 ∧ Aside0 (cognateref02_Text.l0 kq a1 a2 x9_1 x10_1 l0_0 l0_1 = some (r1, r2)) ∧ Aside0 (kq ≤ k) ∧ Aside0 (w'.heap[gb783]? = some (.cells #[(.slice A0_0 l0_0.length c0_0), (.slice A0_1 l0_1.length c0_1)] 25 (0, 0))) ∧ Aside0 (Below w.heap.size w w'))
   case atStart => exact ⟨((⟨#[]⟩ : ByteArray)), (0), (by first | rfl | (simp; done) | (simp [*]; done)), (by first | rfl | (simp; done) | (simp [*]; done)), H', ⟨Nat.le_refl _⟩, ⟨by (with_reducible repeat (first | refine blk_drewN ?_ _ | refine blk_drew ?_ | refine blk_alloc ?_ _)); exact BK783.out⟩, ⟨by repeat (first | (with_reducible first | exact HB.out | apply below_alloc | apply pw_below_drewN | apply below_drew1 | refine below_set ?_ GE783.out) | exact HB.out)⟩⟩
   case round =>
    clear H'
    try clear p2
    try clear c5
    try clear c5b0
    try clear c5b1
    try clear c7
    try clear hcz11_0
    try clear hcz11_1
    try clear hcz9_0
    try clear hcz9_1
    try clear hfz11_0
    try clear hfz11_1
    try clear hfz9_0
    try clear hfz9_1
    obtain ⟨x9_1, x10_1, rfl, rfl, HA, HK1, BK783, HB⟩ := hrel
    cases gk with
    | zero => exact absurd HA.out (by simp [cognateref02_Text.l0])
    | succ k1 =>
     have H := HA.out
     clear HA
     simp only [cognateref02_Text.l0] at H
     by_cases c13 : x10_1 < (l0_0.length : Int)
     ·rw [if_pos c13] at H
      have c13b0 : decide (x10_1 < (l0_0.length : Int)) = true := decide_eq_true c13
      clear c13
      obtain ⟨ji14, hji14⟩ : ∃ j_ : Int, (IntKind.u64.wrap (x10_1)) = j_ := ⟨_, rfl⟩
      replace H : (if 0 ≤ (ji14) then (if (Go.bits .and .u32 a1 (shl .u32 1 (ji14))) = 0 then (if (Go.bits .and .u32 a2 (shl .u32 1 (ji14))) = 0 then (cognateref02_Text.l0 k1 a1 a2 x9_1 (wrap64 (x10_1 + 1)) l0_0 l0_1) else (if x9_1.size + 1 ≤ 9223372036854775807 then (if 0 ≤ x10_1 then (if (x9_1 ++ (⟨#[45]⟩ : ByteArray)).size + (rdOf ByteArray.empty l0_0 x10_1).size ≤ 9223372036854775807 then (cognateref02_Text.l0 k1 a1 a2 ((x9_1 ++ (⟨#[45]⟩ : ByteArray)) ++ (rdOf ByteArray.empty l0_0 x10_1)) (wrap64 (x10_1 + 1)) l0_0 l0_1) else (none)) else (none)) else (none))) else (if x9_1.size + 1 ≤ 9223372036854775807 then (if 0 ≤ x10_1 then (if (x9_1 ++ (⟨#[43]⟩ : ByteArray)).size + (rdOf ByteArray.empty l0_0 x10_1).size ≤ 9223372036854775807 then (if (Go.bits .and .u32 a2 (shl .u32 1 (ji14))) = 0 then (cognateref02_Text.l0 k1 a1 a2 ((x9_1 ++ (⟨#[43]⟩ : ByteArray)) ++ (rdOf ByteArray.empty l0_0 x10_1)) (wrap64 (x10_1 + 1)) l0_0 l0_1) else (if ((x9_1 ++ (⟨#[43]⟩ : ByteArray)) ++ (rdOf ByteArray.empty l0_0 x10_1)).size + 1 ≤ 9223372036854775807 then (if (((x9_1 ++ (⟨#[43]⟩ : ByteArray)) ++ (rdOf ByteArray.empty l0_0 x10_1)) ++ (⟨#[45]⟩ : ByteArray)).size + (rdOf ByteArray.empty l0_0 x10_1).size ≤ 9223372036854775807 then (cognateref02_Text.l0 k1 a1 a2 ((((x9_1 ++ (⟨#[43]⟩ : ByteArray)) ++ (rdOf ByteArray.empty l0_0 x10_1)) ++ (⟨#[45]⟩ : ByteArray)) ++ (rdOf ByteArray.empty l0_0 x10_1)) (wrap64 (x10_1 + 1)) l0_0 l0_1) else (none)) else (none))) else (none)) else (none)) else (none))) else (none)) = some (r1, r2) := by first | (rw [hji14] at H; exact H) | (simp only [hji14] at H ⊢; exact H)
      by_cases c15 : 0 ≤ (ji14)
      ·rw [if_pos c15] at H
       have c15b0 := eq_true c15
       have c15b1 : decide (0 ≤ (ji14)) = true := decide_eq_true c15
       clear c15
       obtain ⟨ji16, hji16⟩ : ∃ j_ : Int, (shl .u32 1 (ji14)) = j_ := ⟨_, rfl⟩
       replace H : (if (Go.bits .and .u32 a1 (ji16)) = 0 then (if (Go.bits .and .u32 a2 (ji16)) = 0 then (cognateref02_Text.l0 k1 a1 a2 x9_1 (wrap64 (x10_1 + 1)) l0_0 l0_1) else (if x9_1.size + 1 ≤ 9223372036854775807 then (if 0 ≤ x10_1 then (if (x9_1 ++ (⟨#[45]⟩ : ByteArray)).size + (rdOf ByteArray.empty l0_0 x10_1).size ≤ 9223372036854775807 then (cognateref02_Text.l0 k1 a1 a2 ((x9_1 ++ (⟨#[45]⟩ : ByteArray)) ++ (rdOf ByteArray.empty l0_0 x10_1)) (wrap64 (x10_1 + 1)) l0_0 l0_1) else (none)) else (none)) else (none))) else (if x9_1.size + 1 ≤ 9223372036854775807 then (if 0 ≤ x10_1 then (if (x9_1 ++ (⟨#[43]⟩ : ByteArray)).size + (rdOf ByteArray.empty l0_0 x10_1).size ≤ 9223372036854775807 then (if (Go.bits .and .u32 a2 (ji16)) = 0 then (cognateref02_Text.l0 k1 a1 a2 ((x9_1 ++ (⟨#[43]⟩ : ByteArray)) ++ (rdOf ByteArray.empty l0_0 x10_1)) (wrap64 (x10_1 + 1)) l0_0 l0_1) else (if ((x9_1 ++ (⟨#[43]⟩ : ByteArray)) ++ (rdOf ByteArray.empty l0_0 x10_1)).size + 1 ≤ 9223372036854775807 then (if (((x9_1 ++ (⟨#[43]⟩ : ByteArray)) ++ (rdOf ByteArray.empty l0_0 x10_1)) ++ (⟨#[45]⟩ : ByteArray)).size + (rdOf ByteArray.empty l0_0 x10_1).size ≤ 9223372036854775807 then (cognateref02_Text.l0 k1 a1 a2 ((((x9_1 ++ (⟨#[43]⟩ : ByteArray)) ++ (rdOf ByteArray.empty l0_0 x10_1)) ++ (⟨#[45]⟩ : ByteArray)) ++ (rdOf ByteArray.empty l0_0 x10_1)) (wrap64 (x10_1 + 1)) l0_0 l0_1) else (none)) else (none))) else (none)) else (none)) else (none))) = some (r1, r2) := by first | (rw [hji16] at H; exact H) | (simp only [hji16] at H ⊢; exact H)
       have hji16_ : (IntKind.u32.wrap (1 * 2 ^ min (ji14).toNat 32)) = ji16 := hji16
       have hji16z : (ji14) ≤ 32 → (IntKind.u32.wrap (1 * 2 ^ (ji14).toNat)) = ji16 := shl_small hji16
       have hji16u : (IntKind.u32.wrap (2 ^ min (ji14).toNat 32)) = ji16 := by have h_ := hji16_; rw [Int.one_mul] at h_; exact h_
       have hji16v : (ji14) ≤ 32 → (IntKind.u32.wrap (2 ^ (ji14).toNat)) = ji16 := fun hle_ => by have h_ := hji16z hle_; rw [Int.one_mul] at h_; exact h_
       by_cases c17 : (Go.bits .and .u32 a1 (ji16)) = 0
       ·rw [if_pos c17] at H
        have c17b0 : ((Go.bits .and .u32 a1 (ji16)) == 0) = true := beq_iff_eq.mpr c17
        have c17b1 : ((Go.bits .and .u32 a1 (ji16)) != 0) = false := bne_eq_false_iff_eq.mpr c17
        clear c17
        by_cases c18 : (Go.bits .and .u32 a2 (ji16)) = 0
        ·rw [if_pos c18] at H
         have c18b0 : ((Go.bits .and .u32 a2 (ji16)) == 0) = true := beq_iff_eq.mpr c18
         have c18b1 : ((Go.bits .and .u32 a2 (ji16)) != 0) = false := bne_eq_false_iff_eq.mpr c18
         clear c18
         have H' := Aside0.mk H
         clear H
         have hcz19_0 : wr.cell? ⟨gb783, 0, none⟩ = some (.slice A0_0 l0_0.length c0_0) := (blk_cell BK783.out 0).trans rfl
         have hcz19_1 : wr.cell? ⟨gb783, 1, none⟩ = some (.slice A0_1 l0_1.length c0_1) := (blk_cell BK783.out 1).trans rfl
         have hfz19_0 := blk_frozen BK783.out 0
         have hfz19_1 := blk_frozen BK783.out 1
         go_wp2
         go_roundg k1
         case measure => have := HK1.out; omega
         case rel => exact ⟨(x9_1), (wrap64 (x10_1 + 1)), (by first | rfl | (simp; done) | (simp [*]; done)), (by first | rfl | (simp; done) | (simp [*]; done)), H', ⟨by have := HK1.out; omega⟩, ⟨by (with_reducible repeat (first | refine blk_drewN ?_ _ | refine blk_drew ?_ | refine blk_alloc ?_ _)); exact BK783.out⟩, ⟨by repeat (first | (with_reducible first | exact HB.out | apply below_alloc | apply pw_below_drewN | apply below_drew1 | refine below_set ?_ GE783.out) | exact HB.out)⟩⟩
        ·rw [if_neg c18] at H
         have c18b0 : ((Go.bits .and .u32 a2 (ji16)) == 0) = false := beq_eq_false_iff_ne.mpr c18
         have c18b1 : ((Go.bits .and .u32 a2 (ji16)) != 0) = true := bne_iff_ne.mpr c18
         by_cases c20 : x9_1.size + 1 ≤ 9223372036854775807
         ·rw [if_pos c20] at H
          have c20b0 := eq_true c20
          have c20b1 : decide (x9_1.size + 1 ≤ 9223372036854775807) = true := decide_eq_true c20
          try have c20b2 : (9223372036854775807 < x9_1.size + 1) = False := eq_false (Nat.not_lt.2 c20)
          (try (have c20n := c20; simp only [ByteArray.size_append, Tabs.size1, Tabs.size0] at c20n))
          by_cases c21 : 0 ≤ x10_1
          ·rw [if_pos c21] at H
           have c21b0 : decide (0 ≤ x10_1) = true := decide_eq_true c21
           clear c21
           by_cases c22 : (x9_1 ++ (⟨#[45]⟩ : ByteArray)).size + (rdOf ByteArray.empty l0_0 x10_1).size ≤ 9223372036854775807
           ·rw [if_pos c22] at H
            have c22b0 := eq_true c22
            have c22b1 : decide ((x9_1 ++ (⟨#[45]⟩ : ByteArray)).size + (rdOf ByteArray.empty l0_0 x10_1).size ≤ 9223372036854775807) = true := decide_eq_true c22
            try have c22b2 : (9223372036854775807 < (x9_1 ++ (⟨#[45]⟩ : ByteArray)).size + (rdOf ByteArray.empty l0_0 x10_1).size) = False := eq_false (Nat.not_lt.2 c22)
            (try (have c22n := c22; simp only [ByteArray.size_append, Tabs.size1, Tabs.size0] at c22n))
            have H' := Aside0.mk H
            clear H
            have hcz23_0 : wr.cell? ⟨gb783, 0, none⟩ = some (.slice A0_0 l0_0.length c0_0) := (blk_cell BK783.out 0).trans rfl
            have hcz23_1 : wr.cell? ⟨gb783, 1, none⟩ = some (.slice A0_1 l0_1.length c0_1) := (blk_cell BK783.out 1).trans rfl
            have hfz23_0 := blk_frozen BK783.out 0
            have hfz23_1 := blk_frozen BK783.out 1
            have p786 : 0 ≤ (x10_1 : Int) := of_decide_eq_true (by first | (with_reducible assumption) | assumption)
            have q786 : x10_1 < (l0_0.length : Int) := of_decide_eq_true (by first | (with_reducible assumption) | assumption)
            obtain ⟨ad786, e786, hx786_0⟩ := Kd.at_string HR0_0.out x10_1 p786 q786
            cases e786
            replace hx786_0 := (HB.out.cell (World.block_lt_of_cell? w _ hx786_0)).trans hx786_0
            replace p786 := eq_true p786
            replace q786 := eq_true q786
            go_wp2
            go_roundg k1
            case measure => have := HK1.out; omega
            case rel => exact ⟨((x9_1 ++ (⟨#[45]⟩ : ByteArray)) ++ (rdOf ByteArray.empty l0_0 x10_1)), (wrap64 (x10_1 + 1)), (by first | rfl | (simp; done) | (simp [*]; done)), (by first | rfl | (simp; done) | (simp [*]; done)), H', ⟨by have := HK1.out; omega⟩, ⟨by (with_reducible repeat (first | refine blk_drewN ?_ _ | refine blk_drew ?_ | refine blk_alloc ?_ _)); exact BK783.out⟩, ⟨by repeat (first | (with_reducible first | exact HB.out | apply below_alloc | apply pw_below_drewN | apply below_drew1 | refine below_set ?_ GE783.out) | exact HB.out)⟩⟩
           ·rw [if_neg c22] at H
            exact absurd H (by simp)
          ·rw [if_neg c21] at H
           exact absurd H (by simp)
         ·rw [if_neg c20] at H
          exact absurd H (by simp)
       ·rw [if_neg c17] at H
        have c17b0 : ((Go.bits .and .u32 a1 (ji16)) == 0) = false := beq_eq_false_iff_ne.mpr c17
        have c17b1 : ((Go.bits .and .u32 a1 (ji16)) != 0) = true := bne_iff_ne.mpr c17
        by_cases c24 : x9_1.size + 1 ≤ 9223372036854775807
        ·rw [if_pos c24] at H
         have c24b0 := eq_true c24
         have c24b1 : decide (x9_1.size + 1 ≤ 9223372036854775807) = true := decide_eq_true c24
         try have c24b2 : (9223372036854775807 < x9_1.size + 1) = False := eq_false (Nat.not_lt.2 c24)
         (try (have c24n := c24; simp only [ByteArray.size_append, Tabs.size1, Tabs.size0] at c24n))
         by_cases c25 : 0 ≤ x10_1
         ·rw [if_pos c25] at H
          have c25b0 : decide (0 ≤ x10_1) = true := decide_eq_true c25
          clear c25
          by_cases c26 : (x9_1 ++ (⟨#[43]⟩ : ByteArray)).size + (rdOf ByteArray.empty l0_0 x10_1).size ≤ 9223372036854775807
          ·rw [if_pos c26] at H
           have c26b0 := eq_true c26
           have c26b1 : decide ((x9_1 ++ (⟨#[43]⟩ : ByteArray)).size + (rdOf ByteArray.empty l0_0 x10_1).size ≤ 9223372036854775807) = true := decide_eq_true c26
           try have c26b2 : (9223372036854775807 < (x9_1 ++ (⟨#[43]⟩ : ByteArray)).size + (rdOf ByteArray.empty l0_0 x10_1).size) = False := eq_false (Nat.not_lt.2 c26)
           (try (have c26n := c26; simp only [ByteArray.size_append, Tabs.size1, Tabs.size0] at c26n))
           by_cases c27 : (Go.bits .and .u32 a2 (ji16)) = 0
           ·rw [if_pos c27] at H
            have c27b0 : ((Go.bits .and .u32 a2 (ji16)) == 0) = true := beq_iff_eq.mpr c27
            have c27b1 : ((Go.bits .and .u32 a2 (ji16)) != 0) = false := bne_eq_false_iff_eq.mpr c27
            clear c27
            have H' := Aside0.mk H
            clear H
            have hcz28_0 : wr.cell? ⟨gb783, 0, none⟩ = some (.slice A0_0 l0_0.length c0_0) := (blk_cell BK783.out 0).trans rfl
            have hcz28_1 : wr.cell? ⟨gb783, 1, none⟩ = some (.slice A0_1 l0_1.length c0_1) := (blk_cell BK783.out 1).trans rfl
            have hfz28_0 := blk_frozen BK783.out 0
            have hfz28_1 := blk_frozen BK783.out 1
            have p787 : 0 ≤ (x10_1 : Int) := of_decide_eq_true (by first | (with_reducible assumption) | assumption)
            have q787 : x10_1 < (l0_0.length : Int) := of_decide_eq_true (by first | (with_reducible assumption) | assumption)
            obtain ⟨ad787, e787, hx787_0⟩ := Kd.at_string HR0_0.out x10_1 p787 q787
            cases e787
            replace hx787_0 := (HB.out.cell (World.block_lt_of_cell? w _ hx787_0)).trans hx787_0
            replace p787 := eq_true p787
            replace q787 := eq_true q787
            go_wp2
            go_roundg k1
            case measure => have := HK1.out; omega
            case rel => exact ⟨((x9_1 ++ (⟨#[43]⟩ : ByteArray)) ++ (rdOf ByteArray.empty l0_0 x10_1)), (wrap64 (x10_1 + 1)), (by first | rfl | (simp; done) | (simp [*]; done)), (by first | rfl | (simp; done) | (simp [*]; done)), H', ⟨by have := HK1.out; omega⟩, ⟨by (with_reducible repeat (first | refine blk_drewN ?_ _ | refine blk_drew ?_ | refine blk_alloc ?_ _)); exact BK783.out⟩, ⟨by repeat (first | (with_reducible first | exact HB.out | apply below_alloc | apply pw_below_drewN | apply below_drew1 | refine below_set ?_ GE783.out) | exact HB.out)⟩⟩
           ·rw [if_neg c27] at H
            have c27b0 : ((Go.bits .and .u32 a2 (ji16)) == 0) = false := beq_eq_false_iff_ne.mpr c27
            have c27b1 : ((Go.bits .and .u32 a2 (ji16)) != 0) = true := bne_iff_ne.mpr c27
            by_cases c29 : ((x9_1 ++ (⟨#[43]⟩ : ByteArray)) ++ (rdOf ByteArray.empty l0_0 x10_1)).size + 1 ≤ 9223372036854775807
            ·rw [if_pos c29] at H
             have c29b0 := eq_true c29
             have c29b1 : decide (((x9_1 ++ (⟨#[43]⟩ : ByteArray)) ++ (rdOf ByteArray.empty l0_0 x10_1)).size + 1 ≤ 9223372036854775807) = true := decide_eq_true c29
             try have c29b2 : (9223372036854775807 < ((x9_1 ++ (⟨#[43]⟩ : ByteArray)) ++ (rdOf ByteArray.empty l0_0 x10_1)).size + 1) = False := eq_false (Nat.not_lt.2 c29)
             (try (have c29n := c29; simp only [ByteArray.size_append, Tabs.size1, Tabs.size0] at c29n))
             by_cases c30 : (((x9_1 ++ (⟨#[43]⟩ : ByteArray)) ++ (rdOf ByteArray.empty l0_0 x10_1)) ++ (⟨#[45]⟩ : ByteArray)).size + (rdOf ByteArray.empty l0_0 x10_1).size ≤ 9223372036854775807
             ·rw [if_pos c30] at H
              have c30b0 := eq_true c30
              have c30b1 : decide ((((x9_1 ++ (⟨#[43]⟩ : ByteArray)) ++ (rdOf ByteArray.empty l0_0 x10_1)) ++ (⟨#[45]⟩ : ByteArray)).size + (rdOf ByteArray.empty l0_0 x10_1).size ≤ 9223372036854775807) = true := decide_eq_true c30
              try have c30b2 : (9223372036854775807 < (((x9_1 ++ (⟨#[43]⟩ : ByteArray)) ++ (rdOf ByteArray.empty l0_0 x10_1)) ++ (⟨#[45]⟩ : ByteArray)).size + (rdOf ByteArray.empty l0_0 x10_1).size) = False := eq_false (Nat.not_lt.2 c30)
              (try (have c30n := c30; simp only [ByteArray.size_append, Tabs.size1, Tabs.size0] at c30n))
              have H' := Aside0.mk H
              clear H
              have hcz31_0 : wr.cell? ⟨gb783, 0, none⟩ = some (.slice A0_0 l0_0.length c0_0) := (blk_cell BK783.out 0).trans rfl
              have hcz31_1 : wr.cell? ⟨gb783, 1, none⟩ = some (.slice A0_1 l0_1.length c0_1) := (blk_cell BK783.out 1).trans rfl
              have hfz31_0 := blk_frozen BK783.out 0
              have hfz31_1 := blk_frozen BK783.out 1
              have p787 : 0 ≤ (x10_1 : Int) := of_decide_eq_true (by first | (with_reducible assumption) | assumption)
              have q787 : x10_1 < (l0_0.length : Int) := of_decide_eq_true (by first | (with_reducible assumption) | assumption)
              obtain ⟨ad787, e787, hx787_0⟩ := Kd.at_string HR0_0.out x10_1 p787 q787
              cases e787
              replace hx787_0 := (HB.out.cell (World.block_lt_of_cell? w _ hx787_0)).trans hx787_0
              replace p787 := eq_true p787
              replace q787 := eq_true q787
              have p788 : 0 ≤ (x10_1 : Int) := of_decide_eq_true (by first | (with_reducible assumption) | assumption)
              have q788 : x10_1 < (l0_0.length : Int) := of_decide_eq_true (by first | (with_reducible assumption) | assumption)
              obtain ⟨ad788, e788, hx788_0⟩ := Kd.at_string HR0_0.out x10_1 p788 q788
              obtain rfl : ad787 = ad788 := (by injection e788)
              replace hx788_0 := (HB.out.cell (World.block_lt_of_cell? w _ hx788_0)).trans hx788_0
              replace p788 := eq_true p788
              replace q788 := eq_true q788
              go_wp2
              go_roundg k1
              case measure => have := HK1.out; omega
              case rel => exact ⟨((((x9_1 ++ (⟨#[43]⟩ : ByteArray)) ++ (rdOf ByteArray.empty l0_0 x10_1)) ++ (⟨#[45]⟩ : ByteArray)) ++ (rdOf ByteArray.empty l0_0 x10_1)), (wrap64 (x10_1 + 1)), (by first | rfl | (simp; done) | (simp [*]; done)), (by first | rfl | (simp; done) | (simp [*]; done)), H', ⟨by have := HK1.out; omega⟩, ⟨by (with_reducible repeat (first | refine blk_drewN ?_ _ | refine blk_drew ?_ | refine blk_alloc ?_ _)); exact BK783.out⟩, ⟨by repeat (first | (with_reducible first | exact HB.out | apply below_alloc | apply pw_below_drewN | apply below_drew1 | refine below_set ?_ GE783.out) | exact HB.out)⟩⟩
             ·rw [if_neg c30] at H
              exact absurd H (by simp)
            ·rw [if_neg c29] at H
             exact absurd H (by simp)
          ·rw [if_neg c26] at H
           exact absurd H (by simp)
         ·rw [if_neg c25] at H
          exact absurd H (by simp)
        ·rw [if_neg c24] at H
         exact absurd H (by simp)
      ·rw [if_neg c15] at H
       exact absurd H (by simp)
     ·rw [if_neg c13] at H
      have c13b0 : decide (x10_1 < (l0_0.length : Int)) = false := decide_eq_false c13
      clear c13
      simp only [Option.some.injEq, Prod.mk.injEq] at H
      obtain ⟨rfl, rfl⟩ := H
      have hcz32_0 : wr.cell? ⟨gb783, 0, none⟩ = some (.slice A0_0 l0_0.length c0_0) := (blk_cell BK783.out 0).trans rfl
      have hcz32_1 : wr.cell? ⟨gb783, 1, none⟩ = some (.slice A0_1 l0_1.length c0_1) := (blk_cell BK783.out 1).trans rfl
      have hfz32_0 := blk_frozen BK783.out 0
      have hfz32_1 := blk_frozen BK783.out 1
      go_wp2
      go_ret2
      exact ⟨by first | rfl | (simp [errW_none, errW_some] <;> rfl) | (simp [*, errW_none, errW_some] <;> rfl), by repeat (first | (with_reducible first | exact HB.out | apply below_alloc | apply pw_below_drewN | apply below_drew1 | refine below_set ?_ GE783.out) | exact HB.out)⟩
  ·replace c7 := Bool.eq_false_iff.mpr c7
   subst c7
   have H1 : (some ((⟨#[]⟩ : ByteArray), 20)) = some (r1, r2) := by rw [if_neg (show ¬ (false = true) by decide)] at H; exact H
   clear H
   have H := H1
   clear H1
   simp only [Option.some.injEq, Prod.mk.injEq] at H
   obtain ⟨rfl, rfl⟩ := H
   go_enter Tryd.func53, Tryd.ntmps53
   go_wp2_with (first | ((with_reducible refine gate_dst (N := 3) rfl ?_); refine box_event ?hg (N := 3) ?hd (cs := #[.slice A0_0 l0_0.length c0_0, .slice A0_1 l0_1.length c0_1]) (t := 25) ?hr ?_; (case hd => rfl); (case hg => rfl); (case hr => first | (go_simp; done) | (go_simp; rfl)); intro gb783 hg w33 hbox hb; have n0_ := Aside0.mk (below_step (by repeat (first | (with_reducible first | exact HB.out | apply below_alloc | apply pw_below_drewN | apply below_drew1) | exact HB.out)) hb); have n1_ := Aside0.mk (hbox); have n2_ := Aside0.mk ((by rw [hg]; exact (below_size (by repeat (first | (with_reducible first | exact HB.out | apply below_alloc | apply pw_below_drewN | apply below_drew1) | exact HB.out))) : w.heap.size ≤ gb783)); have n3_ := Aside0.mk ((by rw [hg]; exact (below_size (by repeat (first | (with_reducible first | exact HB.out | apply below_alloc | apply pw_below_drewN | apply below_drew1) | exact HB.out))) : w.heap.size ≤ gb783)); clear HB; have HB := n0_; have BK783 := n1_; have GW783 := n2_; have GE783 := n3_; clear n0_ n1_ n2_ n3_; clear hb hbox hg; have hcz34_0 : w33.cell? ⟨gb783, 0, none⟩ = some (.slice A0_0 l0_0.length c0_0) := (blk_cell BK783.out 0).trans rfl; have hcz34_1 : w33.cell? ⟨gb783, 1, none⟩ = some (.slice A0_1 l0_1.length c0_1) := (blk_cell BK783.out 1).trans rfl; have hfz34_0 := blk_frozen BK783.out 0; have hfz34_1 := blk_frozen BK783.out 1) | ((with_reducible refine gate_callee (f := 74) rfl ?_); refine goesL_ (some 13) rfl rfl Tryd.func74 (by kernel_rfl) rfl #[.agg #[.slice A0_0 l0_0.length c0_0, .slice A0_1 l0_1.length c0_1], .slice none 0 0] rfl (by (try simp only [List.map_toArray, List.map_cons, List.map_nil]); first | done | rfl | (simp only [List.length_drop, List.length_take]; rfl)) ?_; (refine (cognateref02_asked.calls k _ _ l0_0 _ _ l0_1 _ _ ([] : List Int) t784 _ ?side1 ?side2 ?side3 ?side4 ?side5 ?side6 A4.out).mono ?_); (case side1 => repeat (first | exact (Kd.C_below HR0_0.out HB.out) | (with_reducible refine Kd.C_alloc ?_ _) | (with_reducible refine Kd.C_drewN ?_ _) | (with_reducible refine Kd.C_drew ?_))); (case side2 => exact HC0_0.out); (case side3 => repeat (first | exact (Kd.C_below HR0_1.out HB.out) | (with_reducible refine Kd.C_alloc ?_ _) | (with_reducible refine Kd.C_drewN ?_ _) | (with_reducible refine Kd.C_drew ?_))); (case side4 => exact HC0_1.out); (case side5 => exact Kd.C_nil _ _); (case side6 => exact Nat.le_refl _); rintro e w35 ⟨rfl, hb⟩; refine ⟨_, rfl, ?_⟩; have n0_ := Aside0.mk (blk_below (g := gb783) (o := .cells #[.slice A0_0 l0_0.length c0_0, .slice A0_1 l0_1.length c0_1] 25 (0, 0)) (by (with_reducible repeat (first | refine blk_drewN ?_ _ | refine blk_drew ?_ | refine blk_alloc ?_ _)); exact BK783.out) hb); have n1_ := Aside0.mk (below_step (by repeat (first | (with_reducible first | exact HB.out | apply below_alloc | apply pw_below_drewN | apply below_drew1 | refine below_set ?_ GE783.out) | exact HB.out)) hb); clear BK783; clear HB; have BK783 := n0_; have HB := n1_; clear n0_ n1_; (try clear hb); (try clear hb2); (try clear hk); (try clear hi); have hcz36_0 : w35.cell? ⟨gb783, 0, none⟩ = some (.slice A0_0 l0_0.length c0_0) := (blk_cell BK783.out 0).trans rfl; have hcz36_1 : w35.cell? ⟨gb783, 1, none⟩ = some (.slice A0_1 l0_1.length c0_1) := (blk_cell BK783.out 1).trans rfl; have hfz36_0 := blk_frozen BK783.out 0; have hfz36_1 := blk_frozen BK783.out 1) | ((with_reducible refine gate_callee (f := 76) rfl ?_); refine goesL_ (some 20) rfl rfl Tryd.func76 (by kernel_rfl) rfl #[.agg #[.slice A0_0 l0_0.length c0_0, .slice A0_1 l0_1.length c0_1], .int .u32 a1, .int .u32 a2] rfl (by (try simp only [List.map_toArray, List.map_cons, List.map_nil]); first | done | rfl | (simp only [List.length_drop, List.length_take]; rfl)) ?_; (with_reducible refine (cognateref02_May.calls _ _ l0_0 _ _ l0_1 a1 a2 false _ ?side1 ?side2 ?side3 ?side4 A6.out).mono ?_); (case side1 => repeat (first | exact (Kd.C_below HR0_0.out HB.out) | (with_reducible refine Kd.C_alloc ?_ _) | (with_reducible refine Kd.C_drewN ?_ _) | (with_reducible refine Kd.C_drew ?_))); (case side2 => exact HC0_0.out); (case side3 => repeat (first | exact (Kd.C_below HR0_1.out HB.out) | (with_reducible refine Kd.C_alloc ?_ _) | (with_reducible refine Kd.C_drewN ?_ _) | (with_reducible refine Kd.C_drew ?_))); (case side4 => exact HC0_1.out); rintro e w37 ⟨rfl, hb⟩; refine ⟨_, rfl, ?_⟩; have n0_ := Aside0.mk (blk_below (g := gb783) (o := .cells #[.slice A0_0 l0_0.length c0_0, .slice A0_1 l0_1.length c0_1] 25 (0, 0)) (by (with_reducible repeat (first | refine blk_drewN ?_ _ | refine blk_drew ?_ | refine blk_alloc ?_ _)); exact BK783.out) hb); have n1_ := Aside0.mk (below_step (by repeat (first | (with_reducible first | exact HB.out | apply below_alloc | apply pw_below_drewN | apply below_drew1 | refine below_set ?_ GE783.out) | exact HB.out)) hb); clear BK783; clear HB; have BK783 := n0_; have HB := n1_; clear n0_ n1_; (try clear hb); (try clear hb2); (try clear hk); (try clear hi)))
   go_ret2
   exact ⟨by first | rfl | (simp [errW_none, errW_some] <;> rfl) | (simp [*, errW_none, errW_some] <;> rfl), by repeat (first | (with_reducible first | exact HB.out | apply below_alloc | apply pw_below_drewN | apply below_drew1 | refine below_set ?_ GE783.out) | exact HB.out)⟩
 ·rw [if_neg c5] at H
  have c5b0 : (t784 == 0) = false := beq_eq_false_iff_ne.mpr c5
  have c5b1 : (t784 != 0) = true := bne_iff_ne.mpr c5
  simp only [Option.some.injEq, Prod.mk.injEq] at H
  obtain ⟨rfl, rfl⟩ := H
  go_enter Tryd.func53, Tryd.ntmps53
  go_wp2_with (first | ((with_reducible refine gate_dst (N := 3) rfl ?_); refine box_event ?hg (N := 3) ?hd (cs := #[.slice A0_0 l0_0.length c0_0, .slice A0_1 l0_1.length c0_1]) (t := 25) ?hr ?_; (case hd => rfl); (case hg => rfl); (case hr => first | (go_simp; done) | (go_simp; rfl)); intro gb783 hg w38 hbox hb; have n0_ := Aside0.mk (below_step (by repeat (first | (with_reducible first | exact HB.out | apply below_alloc | apply pw_below_drewN | apply below_drew1) | exact HB.out)) hb); have n1_ := Aside0.mk (hbox); have n2_ := Aside0.mk ((by rw [hg]; exact (below_size (by repeat (first | (with_reducible first | exact HB.out | apply below_alloc | apply pw_below_drewN | apply below_drew1) | exact HB.out))) : w.heap.size ≤ gb783)); have n3_ := Aside0.mk ((by rw [hg]; exact (below_size (by repeat (first | (with_reducible first | exact HB.out | apply below_alloc | apply pw_below_drewN | apply below_drew1) | exact HB.out))) : w.heap.size ≤ gb783)); clear HB; have HB := n0_; have BK783 := n1_; have GW783 := n2_; have GE783 := n3_; clear n0_ n1_ n2_ n3_; clear hb hbox hg; have hcz39_0 : w38.cell? ⟨gb783, 0, none⟩ = some (.slice A0_0 l0_0.length c0_0) := (blk_cell BK783.out 0).trans rfl; have hcz39_1 : w38.cell? ⟨gb783, 1, none⟩ = some (.slice A0_1 l0_1.length c0_1) := (blk_cell BK783.out 1).trans rfl; have hfz39_0 := blk_frozen BK783.out 0; have hfz39_1 := blk_frozen BK783.out 1) | ((with_reducible refine gate_callee (f := 74) rfl ?_); refine goesL_ (some 13) rfl rfl Tryd.func74 (by kernel_rfl) rfl #[.agg #[.slice A0_0 l0_0.length c0_0, .slice A0_1 l0_1.length c0_1], .slice none 0 0] rfl (by (try simp only [List.map_toArray, List.map_cons, List.map_nil]); first | done | rfl | (simp only [List.length_drop, List.length_take]; rfl)) ?_; (refine (cognateref02_asked.calls k _ _ l0_0 _ _ l0_1 _ _ ([] : List Int) t784 _ ?side1 ?side2 ?side3 ?side4 ?side5 ?side6 A4.out).mono ?_); (case side1 => repeat (first | exact (Kd.C_below HR0_0.out HB.out) | (with_reducible refine Kd.C_alloc ?_ _) | (with_reducible refine Kd.C_drewN ?_ _) | (with_reducible refine Kd.C_drew ?_))); (case side2 => exact HC0_0.out); (case side3 => repeat (first | exact (Kd.C_below HR0_1.out HB.out) | (with_reducible refine Kd.C_alloc ?_ _) | (with_reducible refine Kd.C_drewN ?_ _) | (with_reducible refine Kd.C_drew ?_))); (case side4 => exact HC0_1.out); (case side5 => exact Kd.C_nil _ _); (case side6 => exact Nat.le_refl _); rintro e w40 ⟨rfl, hb⟩; refine ⟨_, rfl, ?_⟩; have n0_ := Aside0.mk (blk_below (g := gb783) (o := .cells #[.slice A0_0 l0_0.length c0_0, .slice A0_1 l0_1.length c0_1] 25 (0, 0)) (by (with_reducible repeat (first | refine blk_drewN ?_ _ | refine blk_drew ?_ | refine blk_alloc ?_ _)); exact BK783.out) hb); have n1_ := Aside0.mk (below_step (by repeat (first | (with_reducible first | exact HB.out | apply below_alloc | apply pw_below_drewN | apply below_drew1 | refine below_set ?_ GE783.out) | exact HB.out)) hb); clear BK783; clear HB; have BK783 := n0_; have HB := n1_; clear n0_ n1_; (try clear hb); (try clear hb2); (try clear hk); (try clear hi)))
  go_ret2
  exact ⟨by first | rfl | (simp [errW_none, errW_some] <;> rfl) | (simp [*, errW_none, errW_some] <;> rfl), by repeat (first | (with_reducible first | exact HB.out | apply below_alloc | apply pw_below_drewN | apply below_drew1 | refine below_set ?_ GE783.out) | exact HB.out)⟩

/-! ### cognateref02_named: function 93 -/
def cognateref02_named.l0 : Nat → ByteArray → Int → List ByteArray → List (S53) → Option (Int)
  | 0, _, _, _, _ => none
  | k + 1, x1, x5, x790000, x790001 => if x5 < (x790000.length : Int) then (if 0 ≤ x5 then (if (rdOf ByteArray.empty x790000 x5).toList = x1.toList then (some x5) else (cognateref02_named.l0 k x1 (wrap64 (x5 + 1)) x790000 x790001)) else (none)) else (some (-1))
def cognateref02_named.f (k : Nat) (l0_0 : List ByteArray) (l0_1 : List (S53)) (a1 : ByteArray) : Option (Int) := cognateref02_named.l0 k a1 0 l0_0 l0_1
set_option maxHeartbeats 8000000 in
set_option maxRecDepth 100000 in
theorem cognateref02_named.calls (k : Nat) (A0_0 : Option Addr) (c0_0 : Nat) (l0_0 : List ByteArray) (A0_1 : Option Addr) (c0_1 : Nat) (l0_1 : List (S53)) (a1 : ByteArray) (r : Int) (w : World) (hr0_0 : Kd.C Kd.string w A0_0 l0_0.length l0_0) (hc0_0 : l0_0.length ≤ c0_0) (hr0_1 : Kd.C k53 w A0_1 l0_1.length l0_1) (hc0_1 : l0_1.length ≤ c0_1) (h : cognateref02_named.f k l0_0 l0_1 a1 = some r) :
  Calls Tryd.prog 93 #[.agg #[.slice A0_0 l0_0.length c0_0, .slice A0_1 l0_1.length c0_1], .string a1] w fun e w' => e = .returned (.int .i64 r) ∧ Below w.heap.size w w' := by
 have hu25 := Tryd.underlying25
 have HR0_0 := Aside0.mk hr0_0
 have HC0_0 := Aside0.mk hc0_0
 clear hr0_0 hc0_0
 have HR0_1 := Aside0.mk hr0_1
 have HC0_1 := Aside0.mk hc0_1
 clear hr0_1 hc0_1
 have HB := Aside0.mk (Below.refl w.heap.size w)
 have H : (cognateref02_named.l0 k a1 0 l0_0 l0_1) = some r := h
 clear h
 have H' := Aside0.mk H
 clear H
 go_enter Tryd.func93, Tryd.ntmps93
 go_wp2_with (first | ((with_reducible refine gate_dst (N := 2) rfl ?_); refine box_event ?hg (N := 2) ?hd (cs := #[.slice A0_0 l0_0.length c0_0, .slice A0_1 l0_1.length c0_1]) (t := 25) ?hr ?_; (case hd => rfl); (case hg => rfl); (case hr => first | (go_simp; done) | (go_simp; rfl)); intro gb789 hg w3 hbox hb; have n0_ := Aside0.mk (below_step (by repeat (first | (with_reducible first | exact HB.out | apply below_alloc | apply pw_below_drewN | apply below_drew1) | exact HB.out)) hb); have n1_ := Aside0.mk (hbox); have n2_ := Aside0.mk ((by rw [hg]; exact (below_size (by repeat (first | (with_reducible first | exact HB.out | apply below_alloc | apply pw_below_drewN | apply below_drew1) | exact HB.out))) : w.heap.size ≤ gb789)); have n3_ := Aside0.mk ((by rw [hg]; exact (below_size (by repeat (first | (with_reducible first | exact HB.out | apply below_alloc | apply pw_below_drewN | apply below_drew1) | exact HB.out))) : w.heap.size ≤ gb789)); clear HB; have HB := n0_; have BK789 := n1_; have GW789 := n2_; have GE789 := n3_; clear n0_ n1_ n2_ n3_; clear hb hbox hg))
 go_loopg [5] k (fun kq v5 w' => ∃ (x5_1 : Int), v5 = .int .i64 x5_1 ∧ Aside0 (cognateref02_named.l0 kq a1 x5_1 l0_0 l0_1 = some r) ∧ Aside0 (kq ≤ k) ∧ Aside0 (w'.heap[gb789]? = some (.cells #[(.slice A0_0 l0_0.length c0_0), (.slice A0_1 l0_1.length c0_1)] 25 (0, 0))) ∧ Aside0 (Below w.heap.size w w'))
 case atStart => exact ⟨(0), (by first | rfl | (simp; done) | (simp [*]; done)), H', ⟨Nat.le_refl _⟩, ⟨by (with_reducible repeat (first | refine blk_drewN ?_ _ | refine blk_drew ?_ | refine blk_alloc ?_ _)); exact BK789.out⟩, ⟨by repeat (first | (with_reducible first | exact HB.out | apply below_alloc | apply pw_below_drewN | apply below_drew1 | refine below_set ?_ GE789.out) | exact HB.out)⟩⟩
 case round =>
  clear H'
  try clear p2
  obtain ⟨x5_1, rfl, HA, HK1, BK789, HB⟩ := hrel
  cases gk with
  | zero => exact absurd HA.out (by simp [cognateref02_named.l0])
  | succ k1 =>
   have H := HA.out
   clear HA
   simp only [cognateref02_named.l0] at H
   by_cases c4 : x5_1 < (l0_0.length : Int)
   ·rw [if_pos c4] at H
    have c4b0 : decide (x5_1 < (l0_0.length : Int)) = true := decide_eq_true c4
    clear c4
    by_cases c5 : 0 ≤ x5_1
    ·rw [if_pos c5] at H
     have c5b0 : decide (0 ≤ x5_1) = true := decide_eq_true c5
     clear c5
     by_cases c6 : (rdOf ByteArray.empty l0_0 x5_1).toList = a1.toList
     ·rw [if_pos c6] at H
      have c6b0 : ((rdOf ByteArray.empty l0_0 x5_1).toList == a1.toList) = true := beq_iff_eq.mpr c6
      have c6b1 : ((rdOf ByteArray.empty l0_0 x5_1).toList != a1.toList) = false := bne_eq_false_iff_eq.mpr c6
      clear c6
      obtain rfl := Option.some.inj H
      have hcz7_0 : wr.cell? ⟨gb789, 0, none⟩ = some (.slice A0_0 l0_0.length c0_0) := (blk_cell BK789.out 0).trans rfl
      have hcz7_1 : wr.cell? ⟨gb789, 1, none⟩ = some (.slice A0_1 l0_1.length c0_1) := (blk_cell BK789.out 1).trans rfl
      have hfz7_0 := blk_frozen BK789.out 0
      have hfz7_1 := blk_frozen BK789.out 1
      have p790 : 0 ≤ (x5_1 : Int) := of_decide_eq_true (by first | (with_reducible assumption) | assumption)
      have q790 : x5_1 < (l0_0.length : Int) := of_decide_eq_true (by first | (with_reducible assumption) | assumption)
      obtain ⟨ad790, e790, hx790_0⟩ := Kd.at_string HR0_0.out x5_1 p790 q790
      cases e790
      replace hx790_0 := (HB.out.cell (World.block_lt_of_cell? w _ hx790_0)).trans hx790_0
      replace p790 := eq_true p790
      replace q790 := eq_true q790
      go_wp2
      go_ret
      exact ⟨by first | rfl | (simp [errW_none, errW_some] <;> rfl) | (simp [*, errW_none, errW_some] <;> rfl), by repeat (first | (with_reducible first | exact HB.out | apply below_alloc | apply pw_below_drewN | apply below_drew1 | refine below_set ?_ GE789.out) | exact HB.out)⟩
     ·rw [if_neg c6] at H
      have c6b0 : ((rdOf ByteArray.empty l0_0 x5_1).toList == a1.toList) = false := beq_eq_false_iff_ne.mpr c6
      have c6b1 : ((rdOf ByteArray.empty l0_0 x5_1).toList != a1.toList) = true := bne_iff_ne.mpr c6
      have H' := Aside0.mk H
      clear H
      have hcz8_0 : wr.cell? ⟨gb789, 0, none⟩ = some (.slice A0_0 l0_0.length c0_0) := (blk_cell BK789.out 0).trans rfl
      have hcz8_1 : wr.cell? ⟨gb789, 1, none⟩ = some (.slice A0_1 l0_1.length c0_1) := (blk_cell BK789.out 1).trans rfl
      have hfz8_0 := blk_frozen BK789.out 0
      have hfz8_1 := blk_frozen BK789.out 1
      have p790 : 0 ≤ (x5_1 : Int) := of_decide_eq_true (by first | (with_reducible assumption) | assumption)
      have q790 : x5_1 < (l0_0.length : Int) := of_decide_eq_true (by first | (with_reducible assumption) | assumption)
      obtain ⟨ad790, e790, hx790_0⟩ := Kd.at_string HR0_0.out x5_1 p790 q790
      cases e790
      replace hx790_0 := (HB.out.cell (World.block_lt_of_cell? w _ hx790_0)).trans hx790_0
      replace p790 := eq_true p790
      replace q790 := eq_true q790
      go_wp2
      go_roundg k1
      case measure => have := HK1.out; omega
      case rel => exact ⟨(wrap64 (x5_1 + 1)), (by first | rfl | (simp; done) | (simp [*]; done)), H', ⟨by have := HK1.out; omega⟩, ⟨by (with_reducible repeat (first | refine blk_drewN ?_ _ | refine blk_drew ?_ | refine blk_alloc ?_ _)); exact BK789.out⟩, ⟨by repeat (first | (with_reducible first | exact HB.out | apply below_alloc | apply pw_below_drewN | apply below_drew1 | refine below_set ?_ GE789.out) | exact HB.out)⟩⟩
    ·rw [if_neg c5] at H
     exact absurd H (by simp)
   ·rw [if_neg c4] at H
    have c4b0 : decide (x5_1 < (l0_0.length : Int)) = false := decide_eq_false c4
    clear c4
    obtain rfl := Option.some.inj H
    have hcz9_0 : wr.cell? ⟨gb789, 0, none⟩ = some (.slice A0_0 l0_0.length c0_0) := (blk_cell BK789.out 0).trans rfl
    have hcz9_1 : wr.cell? ⟨gb789, 1, none⟩ = some (.slice A0_1 l0_1.length c0_1) := (blk_cell BK789.out 1).trans rfl
    have hfz9_0 := blk_frozen BK789.out 0
    have hfz9_1 := blk_frozen BK789.out 1
    go_wp2
    go_ret
    exact ⟨by first | rfl | (simp [errW_none, errW_some] <;> rfl) | (simp [*, errW_none, errW_some] <;> rfl), by repeat (first | (with_reducible first | exact HB.out | apply below_alloc | apply pw_below_drewN | apply below_drew1 | refine below_set ?_ GE789.out) | exact HB.out)⟩

end Go.Proofs.YtjnikjnkmcbjfaaDoor.X
