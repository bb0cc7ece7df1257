-- Written by this session's own program wip/gen/xprint.py (out of the translation, by the kit's printer taught a few things more).
import Derived.Test.YtjnikjnkmcbjfabDoorX0
import Derived.Test.YtjnikjnkmcbjfabDoorX23
import Derived.Test.YtjnikjnkmcbjfabDoorGAlign
namespace Go.Proofs.YtjnikjnkmcbjfabDoor.X
open Go.RowKit Go.Proofs.YtjnikjnkmcbjfabDoorW.PrintWords Go.Proofs.YtjnikjnkmcbjfabDoorW.PrintLast
set_option linter.unusedVariables false
set_option linter.unusedSimpArgs false

/-! ### cognatelaw21_AlignThree: function 4 -/
def cognatelaw21_AlignThree.j0 : Nat → Int → Int → Int → Int → Int → Int → Bool → Option (Bool)
  | 0, _, _, _, _, _, _, _ => none
  | k + 1, x10, x12, x13, x15, x16, x18, x82 => if x82 = true then (some false) else (if x12 = 0 then (if x15 = 0 then (if x18 = 0 then (some (decide (x16 ≤ (wrap64 (x10 + x13))))) else (some false)) else (some true)) else (some true))
def cognatelaw21_AlignThree.f (k : Nat) (l0_0 : List ByteArray) (l0_1 : List (S91)) (a1 : ByteArray) (a2 : ByteArray) (a3 : ByteArray) : Option (Bool) := (cognatelaw21_awake.f).bind fun t232 => (if t232 = true then ((align_Words.f l0_0 l0_1 a1 a2).bind fun bt233 => ((align_Words.f l0_0 l0_1 a2 a3).bind fun bt238 => ((align_Words.f l0_0 l0_1 a1 a3).bind fun bt243 => ((align_Words.f l0_0 l0_1 a2 a1).bind fun bt248 => (if ((bt233.2.2 == 0) != (bt248.2.2 == 0)) = true then (cognatelaw21_AlignThree.j0 k bt233.1 bt233.2.2 bt238.1 bt238.2.2 bt243.1 bt243.2.2 true) else (if bt233.1 = bt248.1 then (if bt233.2.2 = 0 then (if ((bt233.1 == 0) != (a1.toList == a2.toList)) = true then (cognatelaw21_AlignThree.j0 k bt233.1 bt233.2.2 bt238.1 bt238.2.2 bt243.1 bt243.2.2 true) else (cognatelaw21_AlignThree.j0 k bt233.1 bt233.2.2 bt238.1 bt238.2.2 bt243.1 bt243.2.2 (decide (bt233.1 < 0)))) else (cognatelaw21_AlignThree.j0 k bt233.1 bt233.2.2 bt238.1 bt238.2.2 bt243.1 bt243.2.2 (decide (bt233.1 < 0)))) else (cognatelaw21_AlignThree.j0 k bt233.1 bt233.2.2 bt238.1 bt238.2.2 bt243.1 bt243.2.2 true))))))) else (some false))
set_option maxHeartbeats 8000000 in
set_option maxRecDepth 100000 in
theorem cognatelaw21_AlignThree.calls (k : Nat) (A0_0 : Option Addr) (c0_0 : Nat) (l0_0 : List ByteArray) (A0_1 : Option Addr) (c0_1 : Nat) (l0_1 : List (S91)) (a1 : ByteArray) (a2 : ByteArray) (a3 : ByteArray) (r : Bool) (w : World) (hT0 : Tabs w) (hr0_0 : Kd.C Kd.string w A0_0 l0_0.length l0_0) (hc0_0 : l0_0.length ≤ c0_0) (hr0_1 : Kd.C k91 w A0_1 l0_1.length l0_1) (hc0_1 : l0_1.length ≤ c0_1) (h : cognatelaw21_AlignThree.f k l0_0 l0_1 a1 a2 a3 = some r) :
  Calls Tryd.prog 4 #[.agg #[.slice A0_0 l0_0.length c0_0, .slice A0_1 l0_1.length c0_1], .string a1, .string a2, .string a3] w fun e w' => e = .returned (.bool r) ∧ Below w.heap.size w w' := by
 have HT := Aside0.mk hT0
 clear hT0
 have hu25 := Tryd.underlying25
 have HR0_0 := Aside0.mk hr0_0
 have HC0_0 := Aside0.mk hc0_0
 clear hr0_0 hc0_0
 have HR0_1 := Aside0.mk hr0_1
 have HC0_1 := Aside0.mk hc0_1
 clear hr0_1 hc0_1
 have HB := Aside0.mk (Below.refl w.heap.size w)
 have H : ((cognatelaw21_awake.f).bind fun t232 => (if t232 = true then ((align_Words.f l0_0 l0_1 a1 a2).bind fun bt233 => ((align_Words.f l0_0 l0_1 a2 a3).bind fun bt238 => ((align_Words.f l0_0 l0_1 a1 a3).bind fun bt243 => ((align_Words.f l0_0 l0_1 a2 a1).bind fun bt248 => (if ((bt233.2.2 == 0) != (bt248.2.2 == 0)) = true then (cognatelaw21_AlignThree.j0 k bt233.1 bt233.2.2 bt238.1 bt238.2.2 bt243.1 bt243.2.2 true) else (if bt233.1 = bt248.1 then (if bt233.2.2 = 0 then (if ((bt233.1 == 0) != (a1.toList == a2.toList)) = true then (cognatelaw21_AlignThree.j0 k bt233.1 bt233.2.2 bt238.1 bt238.2.2 bt243.1 bt243.2.2 true) else (cognatelaw21_AlignThree.j0 k bt233.1 bt233.2.2 bt238.1 bt238.2.2 bt243.1 bt243.2.2 (decide (bt233.1 < 0)))) else (cognatelaw21_AlignThree.j0 k bt233.1 bt233.2.2 bt238.1 bt238.2.2 bt243.1 bt243.2.2 (decide (bt233.1 < 0)))) else (cognatelaw21_AlignThree.j0 k bt233.1 bt233.2.2 bt238.1 bt238.2.2 bt243.1 bt243.2.2 true))))))) else (some false))) = some r := h
 clear h
 replace H := Option.bind_eq_some_iff.mp H
 obtain ⟨t232, A50, H⟩ := H
 replace H : (if t232 = true then ((align_Words.f l0_0 l0_1 a1 a2).bind fun bt233 => ((align_Words.f l0_0 l0_1 a2 a3).bind fun bt238 => ((align_Words.f l0_0 l0_1 a1 a3).bind fun bt243 => ((align_Words.f l0_0 l0_1 a2 a1).bind fun bt248 => (if ((bt233.2.2 == 0) != (bt248.2.2 == 0)) = true then (cognatelaw21_AlignThree.j0 k bt233.1 bt233.2.2 bt238.1 bt238.2.2 bt243.1 bt243.2.2 true) else (if bt233.1 = bt248.1 then (if bt233.2.2 = 0 then (if ((bt233.1 == 0) != (a1.toList == a2.toList)) = true then (cognatelaw21_AlignThree.j0 k bt233.1 bt233.2.2 bt238.1 bt238.2.2 bt243.1 bt243.2.2 true) else (cognatelaw21_AlignThree.j0 k bt233.1 bt233.2.2 bt238.1 bt238.2.2 bt243.1 bt243.2.2 (decide (bt233.1 < 0)))) else (cognatelaw21_AlignThree.j0 k bt233.1 bt233.2.2 bt238.1 bt238.2.2 bt243.1 bt243.2.2 (decide (bt233.1 < 0)))) else (cognatelaw21_AlignThree.j0 k bt233.1 bt233.2.2 bt238.1 bt238.2.2 bt243.1 bt243.2.2 true))))))) else (some false)) = some r := H
 have A5 := Aside0.mk A50
 clear A50
 by_cases c6 : t232 = true
 ·subst c6
  have H1 : ((align_Words.f l0_0 l0_1 a1 a2).bind fun bt233 => ((align_Words.f l0_0 l0_1 a2 a3).bind fun bt238 => ((align_Words.f l0_0 l0_1 a1 a3).bind fun bt243 => ((align_Words.f l0_0 l0_1 a2 a1).bind fun bt248 => (if ((bt233.2.2 == 0) != (bt248.2.2 == 0)) = true then (cognatelaw21_AlignThree.j0 k bt233.1 bt233.2.2 bt238.1 bt238.2.2 bt243.1 bt243.2.2 true) else (if bt233.1 = bt248.1 then (if bt233.2.2 = 0 then (if ((bt233.1 == 0) != (a1.toList == a2.toList)) = true then (cognatelaw21_AlignThree.j0 k bt233.1 bt233.2.2 bt238.1 bt238.2.2 bt243.1 bt243.2.2 true) else (cognatelaw21_AlignThree.j0 k bt233.1 bt233.2.2 bt238.1 bt238.2.2 bt243.1 bt243.2.2 (decide (bt233.1 < 0)))) else (cognatelaw21_AlignThree.j0 k bt233.1 bt233.2.2 bt238.1 bt238.2.2 bt243.1 bt243.2.2 (decide (bt233.1 < 0)))) else (cognatelaw21_AlignThree.j0 k bt233.1 bt233.2.2 bt238.1 bt238.2.2 bt243.1 bt243.2.2 true))))))) = some r := by rw [if_pos rfl] at H; exact H
  clear H
  have H := H1
  clear H1
  replace H := Option.bind_eq_some_iff.mp H
  obtain ⟨⟨t233, t234, t237⟩, A70, H⟩ := H
  replace H : ((align_Words.f l0_0 l0_1 a2 a3).bind fun bt238 => ((align_Words.f l0_0 l0_1 a1 a3).bind fun bt243 => ((align_Words.f l0_0 l0_1 a2 a1).bind fun bt248 => (if ((t237 == 0) != (bt248.2.2 == 0)) = true then (cognatelaw21_AlignThree.j0 k t233 t237 bt238.1 bt238.2.2 bt243.1 bt243.2.2 true) else (if t233 = bt248.1 then (if t237 = 0 then (if ((t233 == 0) != (a1.toList == a2.toList)) = true then (cognatelaw21_AlignThree.j0 k t233 t237 bt238.1 bt238.2.2 bt243.1 bt243.2.2 true) else (cognatelaw21_AlignThree.j0 k t233 t237 bt238.1 bt238.2.2 bt243.1 bt243.2.2 (decide (t233 < 0)))) else (cognatelaw21_AlignThree.j0 k t233 t237 bt238.1 bt238.2.2 bt243.1 bt243.2.2 (decide (t233 < 0)))) else (cognatelaw21_AlignThree.j0 k t233 t237 bt238.1 bt238.2.2 bt243.1 bt243.2.2 true)))))) = some r := H
  have A7 := Aside0.mk A70
  clear A70
  replace H := Option.bind_eq_some_iff.mp H
  obtain ⟨⟨t238, t239, t242⟩, A80, H⟩ := H
  replace H : ((align_Words.f l0_0 l0_1 a1 a3).bind fun bt243 => ((align_Words.f l0_0 l0_1 a2 a1).bind fun bt248 => (if ((t237 == 0) != (bt248.2.2 == 0)) = true then (cognatelaw21_AlignThree.j0 k t233 t237 t238 t242 bt243.1 bt243.2.2 true) else (if t233 = bt248.1 then (if t237 = 0 then (if ((t233 == 0) != (a1.toList == a2.toList)) = true then (cognatelaw21_AlignThree.j0 k t233 t237 t238 t242 bt243.1 bt243.2.2 true) else (cognatelaw21_AlignThree.j0 k t233 t237 t238 t242 bt243.1 bt243.2.2 (decide (t233 < 0)))) else (cognatelaw21_AlignThree.j0 k t233 t237 t238 t242 bt243.1 bt243.2.2 (decide (t233 < 0)))) else (cognatelaw21_AlignThree.j0 k t233 t237 t238 t242 bt243.1 bt243.2.2 true))))) = some r := H
  have A8 := Aside0.mk A80
  clear A80
  replace H := Option.bind_eq_some_iff.mp H
  obtain ⟨⟨t243, t244, t247⟩, A90, H⟩ := H
  replace H : ((align_Words.f l0_0 l0_1 a2 a1).bind fun bt248 => (if ((t237 == 0) != (bt248.2.2 == 0)) = true then (cognatelaw21_AlignThree.j0 k t233 t237 t238 t242 t243 t247 true) else (if t233 = bt248.1 then (if t237 = 0 then (if ((t233 == 0) != (a1.toList == a2.toList)) = true then (cognatelaw21_AlignThree.j0 k t233 t237 t238 t242 t243 t247 true) else (cognatelaw21_AlignThree.j0 k t233 t237 t238 t242 t243 t247 (decide (t233 < 0)))) else (cognatelaw21_AlignThree.j0 k t233 t237 t238 t242 t243 t247 (decide (t233 < 0)))) else (cognatelaw21_AlignThree.j0 k t233 t237 t238 t242 t243 t247 true)))) = some r := H
  have A9 := Aside0.mk A90
  clear A90
  replace H := Option.bind_eq_some_iff.mp H
  obtain ⟨⟨t248, t249, t252⟩, A100, H⟩ := H
  replace H : (if ((t237 == 0) != (t252 == 0)) = true then (cognatelaw21_AlignThree.j0 k t233 t237 t238 t242 t243 t247 true) else (if t233 = t248 then (if t237 = 0 then (if ((t233 == 0) != (a1.toList == a2.toList)) = true then (cognatelaw21_AlignThree.j0 k t233 t237 t238 t242 t243 t247 true) else (cognatelaw21_AlignThree.j0 k t233 t237 t238 t242 t243 t247 (decide (t233 < 0)))) else (cognatelaw21_AlignThree.j0 k t233 t237 t238 t242 t243 t247 (decide (t233 < 0)))) else (cognatelaw21_AlignThree.j0 k t233 t237 t238 t242 t243 t247 true))) = some r := H
  have A10 := Aside0.mk A100
  clear A100
  have HC11 := Aside0.mk H
  clear H
  go_enter Tryd.func4, Tryd.ntmps4
  go_upto_region 8 with (first | ((with_reducible refine gate_dst (N := 4) rfl ?_); refine box_event ?hg (N := 4) ?hd (cs := #[.slice A0_0 l0_0.length c0_0, .slice A0_1 l0_1.length c0_1]) (t := 25) ?hr ?_; (case hd => rfl); (case hg => rfl); (case hr => first | (go_simp; done) | (go_simp; rfl)); intro gb231 hg w12 hbox hb; have n0_ := Aside0.mk (below_step (by repeat (first | (with_reducible first | exact HB.out | apply below_alloc | apply pw_below_drewN | apply below_drew1) | exact HB.out)) hb); have n1_ := Aside0.mk (hbox); have n2_ := Aside0.mk ((by rw [hg]; exact (below_size (by repeat (first | (with_reducible first | exact HB.out | apply below_alloc | apply pw_below_drewN | apply below_drew1) | exact HB.out))) : w.heap.size ≤ gb231)); have n3_ := Aside0.mk ((by rw [hg]; exact (below_size (by repeat (first | (with_reducible first | exact HB.out | apply below_alloc | apply pw_below_drewN | apply below_drew1) | exact HB.out))) : w.heap.size ≤ gb231)); clear HB; have HB := n0_; have BK231 := n1_; have GW231 := n2_; have GE231 := n3_; clear n0_ n1_ n2_ n3_; clear hb hbox hg) | ((with_reducible refine gate_callee (f := 15) rfl ?_); refine goesL_ (some 22) rfl rfl Tryd.func15 (by kernel_rfl) rfl #[] rfl (by (try simp only [List.map_toArray, List.map_cons, List.map_nil]); first | done | rfl | (simp only [List.length_drop, List.length_take]; rfl)) ?_; (with_reducible refine (cognatelaw21_awake.calls  true _ A5.out).mono ?_); rintro e w13 ⟨rfl, hb⟩; refine ⟨_, rfl, ?_⟩; have n0_ := Aside0.mk (blk_below (g := gb231) (o := .cells #[.slice A0_0 l0_0.length c0_0, .slice A0_1 l0_1.length c0_1] 25 (0, 0)) (by (with_reducible repeat (first | refine blk_drewN ?_ _ | refine blk_drew ?_ | refine blk_alloc ?_ _)); exact BK231.out) hb); have n1_ := Aside0.mk (below_step (by repeat (first | (with_reducible first | exact HB.out | apply below_alloc | apply pw_below_drewN | apply below_drew1 | refine below_set ?_ GE231.out) | exact HB.out)) hb); clear BK231; clear HB; have BK231 := n0_; have HB := n1_; clear n0_ n1_; (try clear hb); (try clear hb2); (try clear hk); (try clear hi); have hcz14_0 : w13.cell? ⟨gb231, 0, none⟩ = some (.slice A0_0 l0_0.length c0_0) := (blk_cell BK231.out 0).trans rfl; have hcz14_1 : w13.cell? ⟨gb231, 1, none⟩ = some (.slice A0_1 l0_1.length c0_1) := (blk_cell BK231.out 1).trans rfl; have hfz14_0 := blk_frozen BK231.out 0; have hfz14_1 := blk_frozen BK231.out 1) | ((with_reducible refine gate_callee (f := 20) rfl ?_); refine goesL_ (some 29) rfl rfl Tryd.func20 (by kernel_rfl) rfl #[.agg #[.slice A0_0 l0_0.length c0_0, .slice A0_1 l0_1.length c0_1], .string a1, .string a2] rfl (by (try simp only [List.map_toArray, List.map_cons, List.map_nil]); first | done | rfl | (simp only [List.length_drop, List.length_take]; rfl)) ?_; (with_reducible refine (align_Words.calls _ _ l0_0 _ _ l0_1 a1 a2 t233 t234 t237 _ ?side5 ?side1 ?side2 ?side3 ?side4 A7.out).mono ?_); (case side1 => repeat (first | exact (Kd.C_below HR0_0.out HB.out) | (with_reducible refine Kd.C_alloc ?_ _) | (with_reducible refine Kd.C_drewN ?_ _) | (with_reducible refine Kd.C_drew ?_))); (case side2 => exact HC0_0.out); (case side3 => repeat (first | exact (Kd.C_below HR0_1.out HB.out) | (with_reducible refine Kd.C_alloc ?_ _) | (with_reducible refine Kd.C_drewN ?_ _) | (with_reducible refine Kd.C_drew ?_))); (case side4 => exact HC0_1.out); (case side5 => exact Tabs.below HT.out (by repeat (first | (with_reducible first | exact HB.out | apply below_alloc | apply pw_below_drewN | apply below_drew1 | refine below_set ?_ GE231.out) | exact HB.out))); rintro e w15 ⟨v235, rfl, ho0, hb⟩; refine ⟨_, rfl, ?_⟩; have n0_ := Aside0.mk (Kd.R_lower ho0 (below_size (by repeat (first | (with_reducible first | exact HB.out | apply below_alloc | apply pw_below_drewN | apply below_drew1 | refine below_set ?_ GE231.out) | exact HB.out)))); have n1_ := Aside0.mk (blk_below (g := gb231) (o := .cells #[.slice A0_0 l0_0.length c0_0, .slice A0_1 l0_1.length c0_1] 25 (0, 0)) (by (with_reducible repeat (first | refine blk_drewN ?_ _ | refine blk_drew ?_ | refine blk_alloc ?_ _)); exact BK231.out) hb); have n2_ := Aside0.mk (below_step (by repeat (first | (with_reducible first | exact HB.out | apply below_alloc | apply pw_below_drewN | apply below_drew1 | refine below_set ?_ GE231.out) | exact HB.out)) hb); clear BK231; clear HB; have HO236 := n0_; have BK231 := n1_; have HB := n2_; clear n0_ n1_ n2_; (try clear hb); (try clear hb2); (try clear hk); (try clear hi); (try clear ho0); have hcz16_0 : w15.cell? ⟨gb231, 0, none⟩ = some (.slice A0_0 l0_0.length c0_0) := (blk_cell BK231.out 0).trans rfl; have hcz16_1 : w15.cell? ⟨gb231, 1, none⟩ = some (.slice A0_1 l0_1.length c0_1) := (blk_cell BK231.out 1).trans rfl; have hfz16_0 := blk_frozen BK231.out 0; have hfz16_1 := blk_frozen BK231.out 1) | ((with_reducible refine gate_callee (f := 20) rfl ?_); refine goesL_ (some 37) rfl rfl Tryd.func20 (by kernel_rfl) rfl #[.agg #[.slice A0_0 l0_0.length c0_0, .slice A0_1 l0_1.length c0_1], .string a2, .string a3] rfl (by (try simp only [List.map_toArray, List.map_cons, List.map_nil]); first | done | rfl | (simp only [List.length_drop, List.length_take]; rfl)) ?_; (with_reducible refine (align_Words.calls _ _ l0_0 _ _ l0_1 a2 a3 t238 t239 t242 _ ?side5 ?side1 ?side2 ?side3 ?side4 A8.out).mono ?_); (case side1 => repeat (first | exact (Kd.C_below HR0_0.out HB.out) | (with_reducible refine Kd.C_alloc ?_ _) | (with_reducible refine Kd.C_drewN ?_ _) | (with_reducible refine Kd.C_drew ?_))); (case side2 => exact HC0_0.out); (case side3 => repeat (first | exact (Kd.C_below HR0_1.out HB.out) | (with_reducible refine Kd.C_alloc ?_ _) | (with_reducible refine Kd.C_drewN ?_ _) | (with_reducible refine Kd.C_drew ?_))); (case side4 => exact HC0_1.out); (case side5 => exact Tabs.below HT.out (by repeat (first | (with_reducible first | exact HB.out | apply below_alloc | apply pw_below_drewN | apply below_drew1 | refine below_set ?_ GE231.out) | exact HB.out))); rintro e w17 ⟨v240, rfl, ho0, hb⟩; refine ⟨_, rfl, ?_⟩; have n0_ := Aside0.mk (Kd.R_elder' (by (with_reducible repeat (first | apply Kd.R_alloc | apply Kd.R_drewN | apply Kd.R_drew)); exact HO236.out) (Kd.R_base ho0) hb); have n1_ := Aside0.mk (Kd.R_lower (Kd.R_new' ho0 (Kd.R_lt (by (with_reducible repeat (first | apply Kd.R_alloc | apply Kd.R_drewN | apply Kd.R_drew)); exact HO236.out))) (below_size (by repeat (first | (with_reducible first | exact HB.out | apply below_alloc | apply pw_below_drewN | apply below_drew1 | refine below_set ?_ GE231.out) | exact HB.out)))); have n2_ := Aside0.mk (blk_below (g := gb231) (o := .cells #[.slice A0_0 l0_0.length c0_0, .slice A0_1 l0_1.length c0_1] 25 (0, 0)) (by (with_reducible repeat (first | refine blk_drewN ?_ _ | refine blk_drew ?_ | refine blk_alloc ?_ _)); exact BK231.out) hb); have n3_ := Aside0.mk (below_step (by repeat (first | (with_reducible first | exact HB.out | apply below_alloc | apply pw_below_drewN | apply below_drew1 | refine below_set ?_ GE231.out) | exact HB.out)) hb); clear HO236; clear BK231; clear HB; have HO236 := n0_; have HO241 := n1_; have BK231 := n2_; have HB := n3_; clear n0_ n1_ n2_ n3_; (try clear hb); (try clear hb2); (try clear hk); (try clear hi); (try clear ho0); have hcz18_0 : w17.cell? ⟨gb231, 0, none⟩ = some (.slice A0_0 l0_0.length c0_0) := (blk_cell BK231.out 0).trans rfl; have hcz18_1 : w17.cell? ⟨gb231, 1, none⟩ = some (.slice A0_1 l0_1.length c0_1) := (blk_cell BK231.out 1).trans rfl; have hfz18_0 := blk_frozen BK231.out 0; have hfz18_1 := blk_frozen BK231.out 1) | ((with_reducible refine gate_callee (f := 20) rfl ?_); refine goesL_ (some 45) rfl rfl Tryd.func20 (by kernel_rfl) rfl #[.agg #[.slice A0_0 l0_0.length c0_0, .slice A0_1 l0_1.length c0_1], .string a1, .string a3] rfl (by (try simp only [List.map_toArray, List.map_cons, List.map_nil]); first | done | rfl | (simp only [List.length_drop, List.length_take]; rfl)) ?_; (with_reducible refine (align_Words.calls _ _ l0_0 _ _ l0_1 a1 a3 t243 t244 t247 _ ?side5 ?side1 ?side2 ?side3 ?side4 A9.out).mono ?_); (case side1 => repeat (first | exact (Kd.C_below HR0_0.out HB.out) | (with_reducible refine Kd.C_alloc ?_ _) | (with_reducible refine Kd.C_drewN ?_ _) | (with_reducible refine Kd.C_drew ?_))); (case side2 => exact HC0_0.out); (case side3 => repeat (first | exact (Kd.C_below HR0_1.out HB.out) | (with_reducible refine Kd.C_alloc ?_ _) | (with_reducible refine Kd.C_drewN ?_ _) | (with_reducible refine Kd.C_drew ?_))); (case side4 => exact HC0_1.out); (case side5 => exact Tabs.below HT.out (by repeat (first | (with_reducible first | exact HB.out | apply below_alloc | apply pw_below_drewN | apply below_drew1 | refine below_set ?_ GE231.out) | exact HB.out))); rintro e w19 ⟨v245, rfl, ho0, hb⟩; refine ⟨_, rfl, ?_⟩; have n0_ := Aside0.mk (Kd.R_elder' (by (with_reducible repeat (first | apply Kd.R_alloc | apply Kd.R_drewN | apply Kd.R_drew)); exact HO236.out) (Kd.R_base ho0) hb); have n1_ := Aside0.mk (Kd.R_elder' (by (with_reducible repeat (first | apply Kd.R_alloc | apply Kd.R_drewN | apply Kd.R_drew)); exact HO241.out) (Kd.R_base ho0) hb); have n2_ := Aside0.mk (Kd.R_lower (Kd.R_new' (Kd.R_new' ho0 (Kd.R_lt (by (with_reducible repeat (first | apply Kd.R_alloc | apply Kd.R_drewN | apply Kd.R_drew)); exact HO236.out))) (Kd.R_lt (by (with_reducible repeat (first | apply Kd.R_alloc | apply Kd.R_drewN | apply Kd.R_drew)); exact HO241.out))) (below_size (by repeat (first | (with_reducible first | exact HB.out | apply below_alloc | apply pw_below_drewN | apply below_drew1 | refine below_set ?_ GE231.out) | exact HB.out)))); have n3_ := Aside0.mk (blk_below (g := gb231) (o := .cells #[.slice A0_0 l0_0.length c0_0, .slice A0_1 l0_1.length c0_1] 25 (0, 0)) (by (with_reducible repeat (first | refine blk_drewN ?_ _ | refine blk_drew ?_ | refine blk_alloc ?_ _)); exact BK231.out) hb); have n4_ := Aside0.mk (below_step (by repeat (first | (with_reducible first | exact HB.out | apply below_alloc | apply pw_below_drewN | apply below_drew1 | refine below_set ?_ GE231.out) | exact HB.out)) hb); clear HO236; clear HO241; clear BK231; clear HB; have HO236 := n0_; have HO241 := n1_; have HO246 := n2_; have BK231 := n3_; have HB := n4_; clear n0_ n1_ n2_ n3_ n4_; (try clear hb); (try clear hb2); (try clear hk); (try clear hi); (try clear ho0); have hcz20_0 : w19.cell? ⟨gb231, 0, none⟩ = some (.slice A0_0 l0_0.length c0_0) := (blk_cell BK231.out 0).trans rfl; have hcz20_1 : w19.cell? ⟨gb231, 1, none⟩ = some (.slice A0_1 l0_1.length c0_1) := (blk_cell BK231.out 1).trans rfl; have hfz20_0 := blk_frozen BK231.out 0; have hfz20_1 := blk_frozen BK231.out 1) | ((with_reducible refine gate_callee (f := 20) rfl ?_); refine goesL_ (some 53) rfl rfl Tryd.func20 (by kernel_rfl) rfl #[.agg #[.slice A0_0 l0_0.length c0_0, .slice A0_1 l0_1.length c0_1], .string a2, .string a1] rfl (by (try simp only [List.map_toArray, List.map_cons, List.map_nil]); first | done | rfl | (simp only [List.length_drop, List.length_take]; rfl)) ?_; (with_reducible refine (align_Words.calls _ _ l0_0 _ _ l0_1 a2 a1 t248 t249 t252 _ ?side5 ?side1 ?side2 ?side3 ?side4 A10.out).mono ?_); (case side1 => repeat (first | exact (Kd.C_below HR0_0.out HB.out) | (with_reducible refine Kd.C_alloc ?_ _) | (with_reducible refine Kd.C_drewN ?_ _) | (with_reducible refine Kd.C_drew ?_))); (case side2 => exact HC0_0.out); (case side3 => repeat (first | exact (Kd.C_below HR0_1.out HB.out) | (with_reducible refine Kd.C_alloc ?_ _) | (with_reducible refine Kd.C_drewN ?_ _) | (with_reducible refine Kd.C_drew ?_))); (case side4 => exact HC0_1.out); (case side5 => exact Tabs.below HT.out (by repeat (first | (with_reducible first | exact HB.out | apply below_alloc | apply pw_below_drewN | apply below_drew1 | refine below_set ?_ GE231.out) | exact HB.out))); rintro e w21 ⟨v250, rfl, ho0, hb⟩; refine ⟨_, rfl, ?_⟩; have n0_ := Aside0.mk (Kd.R_elder' (by (with_reducible repeat (first | apply Kd.R_alloc | apply Kd.R_drewN | apply Kd.R_drew)); exact HO236.out) (Kd.R_base ho0) hb); have n1_ := Aside0.mk (Kd.R_elder' (by (with_reducible repeat (first | apply Kd.R_alloc | apply Kd.R_drewN | apply Kd.R_drew)); exact HO241.out) (Kd.R_base ho0) hb); have n2_ := Aside0.mk (Kd.R_elder' (by (with_reducible repeat (first | apply Kd.R_alloc | apply Kd.R_drewN | apply Kd.R_drew)); exact HO246.out) (Kd.R_base ho0) hb); have n3_ := Aside0.mk (Kd.R_lower (Kd.R_new' (Kd.R_new' (Kd.R_new' ho0 (Kd.R_lt (by (with_reducible repeat (first | apply Kd.R_alloc | apply Kd.R_drewN | apply Kd.R_drew)); exact HO236.out))) (Kd.R_lt (by (with_reducible repeat (first | apply Kd.R_alloc | apply Kd.R_drewN | apply Kd.R_drew)); exact HO241.out))) (Kd.R_lt (by (with_reducible repeat (first | apply Kd.R_alloc | apply Kd.R_drewN | apply Kd.R_drew)); exact HO246.out))) (below_size (by repeat (first | (with_reducible first | exact HB.out | apply below_alloc | apply pw_below_drewN | apply below_drew1 | refine below_set ?_ GE231.out) | exact HB.out)))); have n4_ := Aside0.mk (blk_below (g := gb231) (o := .cells #[.slice A0_0 l0_0.length c0_0, .slice A0_1 l0_1.length c0_1] 25 (0, 0)) (by (with_reducible repeat (first | refine blk_drewN ?_ _ | refine blk_drew ?_ | refine blk_alloc ?_ _)); exact BK231.out) hb); have n5_ := Aside0.mk (below_step (by repeat (first | (with_reducible first | exact HB.out | apply below_alloc | apply pw_below_drewN | apply below_drew1 | refine below_set ?_ GE231.out) | exact HB.out)) hb); clear HO236; clear HO241; clear HO246; clear BK231; clear HB; have HO236 := n0_; have HO241 := n1_; have HO246 := n2_; have HO251 := n3_; have BK231 := n4_; have HB := n5_; clear n0_ n1_ n2_ n3_ n4_ n5_; (try clear hb); (try clear hb2); (try clear hk); (try clear hi); (try clear ho0)))
  (try simp only [Act.put, List.setIfInBounds_toArray, List.set_cons_zero, List.set_cons_succ])
  go_cut [82] (fun v82 wc => ∃ (kq : Nat) (x82_10 : Bool), v82 = .bool x82_10 ∧ Aside0 (cognatelaw21_AlignThree.j0 kq t233 t237 t238 t242 t243 t247 x82_10 = some r) ∧ Aside0 (kq ≤ k) ∧ Aside0 (wc.heap[gb231]? = some (.cells #[(.slice A0_0 l0_0.length c0_0), (.slice A0_1 l0_1.length c0_1)] 25 (0, 0))) ∧ Aside0 (Below w.heap.size w wc))
  case first =>
   have H := HC11.out
   clear HC11
   by_cases c22 : ((t237 == 0) != (t252 == 0)) = true
   ·rw [if_pos c22] at H
    have c22b0 : ((t237 == 0) != (t252 == 0)) = true := c22
    (try (have c22b1 : decide ((t237 == 0) = (t252 == 0)) = false := by simpa using c22))
    (try (have c22b2 : ((t237 == 0) == (t252 == 0)) = false := by simpa using c22))
    (try (have c22b3 : ¬ ((t237 == 0) = (t252 == 0)) := by simpa using c22))
    clear c22
    (first | rw [c22b0] | (simp only [i64_w, i32_w]; rw [c22b0]) | skip)
    have H' := Aside0.mk H
    clear H
    go_wp2
    go_meet
    case rel => exact ⟨_, (true), (by first | rfl | (simp; done) | (simp [*]; done)), H', ⟨by first | omega | exact Nat.le_refl _⟩, ⟨by (with_reducible repeat (first | refine blk_drewN ?_ _ | refine blk_drew ?_ | refine blk_alloc ?_ _)); exact BK231.out⟩, ⟨by repeat (first | (with_reducible first | exact HB.out | apply below_alloc | apply pw_below_drewN | apply below_drew1 | refine below_set ?_ GE231.out) | exact HB.out)⟩⟩
   ·rw [if_neg c22] at H
    have c22b0 : ((t237 == 0) != (t252 == 0)) = false := by simpa using c22
    (try (have c22b1 : decide ((t237 == 0) = (t252 == 0)) = true := by simpa using c22))
    (try (have c22b2 : ((t237 == 0) == (t252 == 0)) = true := by simpa using c22))
    clear c22
    (first | rw [c22b0] | (simp only [i64_w, i32_w]; rw [c22b0]) | skip)
    by_cases c23 : t233 = t248
    ·rw [if_pos c23] at H
     have c23b0 : (t233 == t248) = true := beq_iff_eq.mpr c23
     have c23b1 : (t233 != t248) = false := bne_eq_false_iff_eq.mpr c23
     clear c23
     by_cases c24 : t237 = 0
     ·rw [if_pos c24] at H
      have c24b0 : (t237 == 0) = true := beq_iff_eq.mpr c24
      have c26b0 : (t252 == 0) = true := by rw [c24b0] at c22b0; simpa using c22b0
      have c26b1 : (t252 != 0) = false := by rw [bne, c26b0]; rfl
      clear c22b0
      (try clear c22b1)
      (try clear c22b2)
      have c24b1 : (t237 != 0) = false := bne_eq_false_iff_eq.mpr c24
      clear c24
      by_cases c25 : ((t233 == 0) != (a1.toList == a2.toList)) = true
      ·rw [if_pos c25] at H
       have c25b0 : ((t233 == 0) != (a1.toList == a2.toList)) = true := c25
       (try (have c25b1 : decide ((t233 == 0) = (a1.toList == a2.toList)) = false := by simpa using c25))
       (try (have c25b2 : ((t233 == 0) == (a1.toList == a2.toList)) = false := by simpa using c25))
       (try (have c25b3 : ¬ ((t233 == 0) = (a1.toList == a2.toList)) := by simpa using c25))
       clear c25
       have H' := Aside0.mk H
       clear H
       go_wp2
       go_meet
       case rel => exact ⟨_, (true), (by first | rfl | (simp; done) | (simp [*]; done)), H', ⟨by first | omega | exact Nat.le_refl _⟩, ⟨by (with_reducible repeat (first | refine blk_drewN ?_ _ | refine blk_drew ?_ | refine blk_alloc ?_ _)); exact BK231.out⟩, ⟨by repeat (first | (with_reducible first | exact HB.out | apply below_alloc | apply pw_below_drewN | apply below_drew1 | refine below_set ?_ GE231.out) | exact HB.out)⟩⟩
      ·rw [if_neg c25] at H
       have c25b0 : ((t233 == 0) != (a1.toList == a2.toList)) = false := by simpa using c25
       (try (have c25b1 : decide ((t233 == 0) = (a1.toList == a2.toList)) = true := by simpa using c25))
       (try (have c25b2 : ((t233 == 0) == (a1.toList == a2.toList)) = true := by simpa using c25))
       clear c25
       have H' := Aside0.mk H
       clear H
       go_wp2
       go_meet
       case rel => exact ⟨_, (decide (t233 < 0)), (by first | rfl | (simp; done) | (simp [*]; done)), H', ⟨by first | omega | exact Nat.le_refl _⟩, ⟨by (with_reducible repeat (first | refine blk_drewN ?_ _ | refine blk_drew ?_ | refine blk_alloc ?_ _)); exact BK231.out⟩, ⟨by repeat (first | (with_reducible first | exact HB.out | apply below_alloc | apply pw_below_drewN | apply below_drew1 | refine below_set ?_ GE231.out) | exact HB.out)⟩⟩
     ·rw [if_neg c24] at H
      have c24b0 : (t237 == 0) = false := beq_eq_false_iff_ne.mpr c24
      have c26b0 : (t252 == 0) = false := by rw [c24b0] at c22b0; simpa using c22b0
      have c26b1 : (t252 != 0) = true := by rw [bne, c26b0]; rfl
      clear c22b0
      (try clear c22b1)
      (try clear c22b2)
      have c24b1 : (t237 != 0) = true := bne_iff_ne.mpr c24
      have H' := Aside0.mk H
      clear H
      go_wp2
      go_meet
      case rel => exact ⟨_, (decide (t233 < 0)), (by first | rfl | (simp; done) | (simp [*]; done)), H', ⟨by first | omega | exact Nat.le_refl _⟩, ⟨by (with_reducible repeat (first | refine blk_drewN ?_ _ | refine blk_drew ?_ | refine blk_alloc ?_ _)); exact BK231.out⟩, ⟨by repeat (first | (with_reducible first | exact HB.out | apply below_alloc | apply pw_below_drewN | apply below_drew1 | refine below_set ?_ GE231.out) | exact HB.out)⟩⟩
    ·rw [if_neg c23] at H
     have c23b0 : (t233 == t248) = false := beq_eq_false_iff_ne.mpr c23
     have c23b1 : (t233 != t248) = true := bne_iff_ne.mpr c23
     have H' := Aside0.mk H
     clear H
     go_wp2
     go_meet
     case rel => exact ⟨_, (true), (by first | rfl | (simp; done) | (simp [*]; done)), H', ⟨by first | omega | exact Nat.le_refl _⟩, ⟨by (with_reducible repeat (first | refine blk_drewN ?_ _ | refine blk_drew ?_ | refine blk_alloc ?_ _)); exact BK231.out⟩, ⟨by repeat (first | (with_reducible first | exact HB.out | apply below_alloc | apply pw_below_drewN | apply below_drew1 | refine below_set ?_ GE231.out) | exact HB.out)⟩⟩
  case rest =>
   clear HC11
   try clear c1
   try clear c2
   try clear p2
   try clear c4
   try clear c6
   try clear c15
   try clear c20
   try clear c22
   try clear c22b0
   try clear c22b1
   try clear c22b2
   try clear c23
   try clear c23b0
   try clear c23b1
   try clear c24
   try clear c24b0
   try clear c24b1
   try clear c25
   try clear c25b0
   try clear c25b1
   try clear c25b2
   try clear hcz14_0
   try clear hcz14_1
   try clear hcz16_0
   try clear hcz16_1
   try clear hcz18_0
   try clear hcz18_1
   try clear hcz20_0
   try clear hcz20_1
   try clear hfz14_0
   try clear hfz14_1
   try clear hfz16_0
   try clear hfz16_1
   try clear hfz18_0
   try clear hfz18_1
   try clear hfz20_0
   try clear hfz20_1
   obtain ⟨kq, x82_10, rfl, HA, HJ10, BK231, HB⟩ := hcut
   cases kq with
   | zero => exact absurd HA.out (by simp [cognatelaw21_AlignThree.j0])
   | succ kj10 =>
    have H := HA.out
    clear HA
    simp only [cognatelaw21_AlignThree.j0] at H
    by_cases c26 : x82_10 = true
    ·subst c26
     have H1 : (some false) = some r := by rw [if_pos rfl] at H; exact H
     clear H
     have H := H1
     clear H1
     obtain rfl := Option.some.inj H
     go_wp2
     go_ret
     exact ⟨by first | rfl | (simp [errW_none, errW_some] <;> rfl) | (simp [*, errW_none, errW_some] <;> rfl), by repeat (first | (with_reducible first | exact HB.out | apply below_alloc | apply pw_below_drewN | apply below_drew1 | refine below_set ?_ GE231.out) | exact HB.out)⟩
    ·replace c26 := Bool.eq_false_iff.mpr c26
     subst c26
     have H1 : (if t237 = 0 then (if t242 = 0 then (if t247 = 0 then (some (decide (t243 ≤ (wrap64 (t233 + t238))))) else (some false)) else (some true)) else (some true)) = some r := by rw [if_neg (show ¬ (false = true) by decide)] at H; exact H
     clear H
     have H := H1
     clear H1
     by_cases c27 : t237 = 0
     ·rw [if_pos c27] at H
      have c27b0 : (t237 == 0) = true := beq_iff_eq.mpr c27
      have c27b1 : (t237 != 0) = false := bne_eq_false_iff_eq.mpr c27
      clear c27
      by_cases c28 : t242 = 0
      ·rw [if_pos c28] at H
       have c28b0 : (t242 == 0) = true := beq_iff_eq.mpr c28
       have c28b1 : (t242 != 0) = false := bne_eq_false_iff_eq.mpr c28
       clear c28
       by_cases c29 : t247 = 0
       ·rw [if_pos c29] at H
        have c29b0 : (t247 == 0) = true := beq_iff_eq.mpr c29
        have c29b1 : (t247 != 0) = false := bne_eq_false_iff_eq.mpr c29
        clear c29
        obtain rfl := Option.some.inj H
        go_wp2
        go_ret
        exact ⟨by first | rfl | (simp [errW_none, errW_some] <;> rfl) | (simp [*, errW_none, errW_some] <;> rfl), by repeat (first | (with_reducible first | exact HB.out | apply below_alloc | apply pw_below_drewN | apply below_drew1 | refine below_set ?_ GE231.out) | exact HB.out)⟩
       ·rw [if_neg c29] at H
        have c29b0 : (t247 == 0) = false := beq_eq_false_iff_ne.mpr c29
        have c29b1 : (t247 != 0) = true := bne_iff_ne.mpr c29
        obtain rfl := Option.some.inj H
        go_wp2
        go_ret
        exact ⟨by first | rfl | (simp [errW_none, errW_some] <;> rfl) | (simp [*, errW_none, errW_some] <;> rfl), by repeat (first | (with_reducible first | exact HB.out | apply below_alloc | apply pw_below_drewN | apply below_drew1 | refine below_set ?_ GE231.out) | exact HB.out)⟩
      ·rw [if_neg c28] at H
       have c28b0 : (t242 == 0) = false := beq_eq_false_iff_ne.mpr c28
       have c28b1 : (t242 != 0) = true := bne_iff_ne.mpr c28
       obtain rfl := Option.some.inj H
       go_wp2
       go_ret
       exact ⟨by first | rfl | (simp [errW_none, errW_some] <;> rfl) | (simp [*, errW_none, errW_some] <;> rfl), by repeat (first | (with_reducible first | exact HB.out | apply below_alloc | apply pw_below_drewN | apply below_drew1 | refine below_set ?_ GE231.out) | exact HB.out)⟩
     ·rw [if_neg c27] at H
      have c27b0 : (t237 == 0) = false := beq_eq_false_iff_ne.mpr c27
      have c27b1 : (t237 != 0) = true := bne_iff_ne.mpr c27
      obtain rfl := Option.some.inj H
      go_wp2
      go_ret
      exact ⟨by first | rfl | (simp [errW_none, errW_some] <;> rfl) | (simp [*, errW_none, errW_some] <;> rfl), by repeat (first | (with_reducible first | exact HB.out | apply below_alloc | apply pw_below_drewN | apply below_drew1 | refine below_set ?_ GE231.out) | exact HB.out)⟩
 ·replace c6 := Bool.eq_false_iff.mpr c6
  subst c6
  have H1 : (some false) = some r := by rw [if_neg (show ¬ (false = true) by decide)] at H; exact H
  clear H
  have H := H1
  clear H1
  obtain rfl := Option.some.inj H
  go_enter Tryd.func4, Tryd.ntmps4
  go_wp2_with (first | ((with_reducible refine gate_dst (N := 4) rfl ?_); refine box_event ?hg (N := 4) ?hd (cs := #[.slice A0_0 l0_0.length c0_0, .slice A0_1 l0_1.length c0_1]) (t := 25) ?hr ?_; (case hd => rfl); (case hg => rfl); (case hr => first | (go_simp; done) | (go_simp; rfl)); intro gb231 hg w30 hbox hb; have n0_ := Aside0.mk (below_step (by repeat (first | (with_reducible first | exact HB.out | apply below_alloc | apply pw_below_drewN | apply below_drew1) | exact HB.out)) hb); have n1_ := Aside0.mk (hbox); have n2_ := Aside0.mk ((by rw [hg]; exact (below_size (by repeat (first | (with_reducible first | exact HB.out | apply below_alloc | apply pw_below_drewN | apply below_drew1) | exact HB.out))) : w.heap.size ≤ gb231)); have n3_ := Aside0.mk ((by rw [hg]; exact (below_size (by repeat (first | (with_reducible first | exact HB.out | apply below_alloc | apply pw_below_drewN | apply below_drew1) | exact HB.out))) : w.heap.size ≤ gb231)); clear HB; have HB := n0_; have BK231 := n1_; have GW231 := n2_; have GE231 := n3_; clear n0_ n1_ n2_ n3_; clear hb hbox hg) | ((with_reducible refine gate_callee (f := 15) rfl ?_); refine goesL_ (some 22) rfl rfl Tryd.func15 (by kernel_rfl) rfl #[] rfl (by (try simp only [List.map_toArray, List.map_cons, List.map_nil]); first | done | rfl | (simp only [List.length_drop, List.length_take]; rfl)) ?_; (with_reducible refine (cognatelaw21_awake.calls  false _ A5.out).mono ?_); rintro e w31 ⟨rfl, hb⟩; refine ⟨_, rfl, ?_⟩; have n0_ := Aside0.mk (blk_below (g := gb231) (o := .cells #[.slice A0_0 l0_0.length c0_0, .slice A0_1 l0_1.length c0_1] 25 (0, 0)) (by (with_reducible repeat (first | refine blk_drewN ?_ _ | refine blk_drew ?_ | refine blk_alloc ?_ _)); exact BK231.out) hb); have n1_ := Aside0.mk (below_step (by repeat (first | (with_reducible first | exact HB.out | apply below_alloc | apply pw_below_drewN | apply below_drew1 | refine below_set ?_ GE231.out) | exact HB.out)) hb); clear BK231; clear HB; have BK231 := n0_; have HB := n1_; clear n0_ n1_; (try clear hb); (try clear hb2); (try clear hk); (try clear hi)))
  go_ret
  exact ⟨by first | rfl | (simp [errW_none, errW_some] <;> rfl) | (simp [*, errW_none, errW_some] <;> rfl), by repeat (first | (with_reducible first | exact HB.out | apply below_alloc | apply pw_below_drewN | apply below_drew1 | refine below_set ?_ GE231.out) | exact HB.out)⟩

end Go.Proofs.YtjnikjnkmcbjfabDoor.X
